/-
  Grammar: the reference's tokens, Parse and Print.
-/
import Derived.Test.YtiolflfjekiboaaGreatDoorHj
import Derived.Test.YtiolflfjekiboaaGreatDoorHi
import Derived.Test.YtiolflfjekiboaaGreatDoorLm
namespace Go.V.Gr
open Go.Proofs Go.RowKit Go.V.Lx
set_option linter.unusedSimpArgs false
set_option linter.unusedVariables false
set_option maxRecDepth 100000

set_option maxHeartbeats 8000000 in
theorem tokens_d (g : Gram) (h : Pr g) : fnD Tryz.prog (orac Tryz.prog) [] Tryz.f30 [gx g] (.sl 4 ((tokensOf g).map Tok.d)) := by
  refine fn_intro _ [.tmp 2] _ rfl rfl rfl (by kernel_rfl) ?_
  have hn := h.n
  have hc := h.cats
  have he := h.ents
  have hr := h.ruls
  have hnl : (tokensOf g).length = 3 + ((g.cats.flatMap tokCat).length + 3) + ((g.entries.flatMap tokEntry).length + (g.rules.flatMap tokRule).length) := by simp only [tokensOf, tokHead, List.length_append, List.length_cons, List.length_nil]
  have n9 : (tokensOf g).length ≤ 900000 := hn
  simp (maxSteps := 1000000) (disch := omega) only [go_sem, reduceIte, Nat.reduceEqDiff, Nat.reduceAdd, Nat.reduceLeDiff, Nat.reduceLT, Nat.reduceSub, Int.reduceLT, Int.reduceLE, Int.reduceEq, Int.reduceToNat, Option.map_some, List.length_map, List.getElem?_map, Int.toNat_natCast, gx]
  refine call_boxes (puts_t wGrammar g.name _ .nilsl [] (OwnV.nil _ _ _ _) (by simp)) rfl ?_
  rintro d b1 ⟨h1, h2⟩
  simp (maxSteps := 1000000) (disch := omega) only [go_sem, reduceIte, Nat.reduceEqDiff, Nat.reduceAdd, Nat.reduceLeDiff, Nat.reduceLT, Nat.reduceSub, Int.reduceLT, Int.reduceLE, Int.reduceEq, Int.reduceToNat, Option.map_some, List.length_map, List.getElem?_map, Int.toNat_natCast]
  refine call_boxes (mark_t [59] b1 d _ h1 (by simp)) rfl ?_
  rintro d2 b2 ⟨h3, h4⟩
  have hG : b2 1 = ⟨1, 1, 6, 27, [gx g]⟩ := (h4 1 (by omega)).trans ((h2 1 (by omega)).trans (upd_same _ _ _))
  clear h1 h2 h4
  rw [List.nil_append] at h3
  simp (maxSteps := 1000000) (disch := omega) only [go_sem, reduceIte, Nat.reduceEqDiff, Nat.reduceAdd, Nat.reduceLeDiff, Nat.reduceLT, Nat.reduceSub, Int.reduceLT, Int.reduceLE, Int.reduceEq, Int.reduceToNat, Option.map_some, List.length_map, List.getElem?_map, Int.toNat_natCast]
  refine cD_for g.cats.length (fun k σ b => ∃ w, σ 3 = w ∧ σ 1 = .loc 1 1 0 0 ∧ σ 4 = .int .i64 k ∧ b 1 = ⟨1, 1, 6, 27, [gx g]⟩ ∧ OwnT b w ([nT wGrammar, nT g.name] ++ [sT [59]] ++ (g.cats.take k).flatMap tokCat))
    ⟨d2, by simp [go_sem], by simp [go_sem, Bx.none], by simp [go_sem], hG, by simpa using h3⟩ ?_ ?_
  · clear h3 hG
    rintro k σ b hk ⟨w, h3, h1, h4, hG, hw⟩
    obtain ⟨y, hy⟩ := get_lt hk
    have hlt : (k : Int) < (g.cats.length : Int) := by omega
    have hws : IntKind.i64.wrap ((k : Int) + 1) = ((k + 1 : Nat) : Int) := wrap_succ (by omega)
    have hle := flat_le tokCat g.cats k
    simp (maxSteps := 1000000) (disch := omega) only [go_sem, reduceIte, Nat.reduceEqDiff, Nat.reduceAdd, Nat.reduceLeDiff, Nat.reduceLT, Nat.reduceSub, Int.reduceLT, Int.reduceLE, Int.reduceEq, Int.reduceToNat, Option.map_some, List.length_map, List.getElem?_map, Int.toNat_natCast, h3, h1, h4, hG, gx, hlt, hy]
    refine call_boxes (puts_t wCategory y b w _ hw (by simp only [List.length_append, List.length_cons, List.length_nil]; omega)) rfl ?_
    rintro d b1 ⟨g1, g2⟩
    simp (maxSteps := 1000000) (disch := omega) only [go_sem, reduceIte, Nat.reduceEqDiff, Nat.reduceAdd, Nat.reduceLeDiff, Nat.reduceLT, Nat.reduceSub, Int.reduceLT, Int.reduceLE, Int.reduceEq, Int.reduceToNat, Option.map_some, List.length_map, List.getElem?_map, Int.toNat_natCast, h3, h1, h4]
    refine call_boxes (mark_t [59] b1 d _ g1 (by simp only [List.length_append, List.length_cons, List.length_nil]; omega)) rfl ?_
    rintro d' b2 ⟨g3, g4⟩
    simp (maxSteps := 1000000) (disch := omega) only [go_sem, reduceIte, Nat.reduceEqDiff, Nat.reduceAdd, Nat.reduceLeDiff, Nat.reduceLT, Nat.reduceSub, Int.reduceLT, Int.reduceLE, Int.reduceEq, Int.reduceToNat, Option.map_some, List.length_map, List.getElem?_map, Int.toNat_natCast, h3, h1, h4, hws]
    refine ⟨d', rfl, (g4 1 (by omega)).trans ((g2 1 (by omega)).trans hG), ?_⟩
    have : tokCat y = [nT wCategory, nT y] ++ [sT [59]] := rfl
    rw [flat_take tokCat hy, this]
    simp only [List.append_assoc] at g3 ⊢
    exact g3
  · clear h3 hG
    rintro σ b ⟨w, h3, h1, h4, hG, hw⟩
    have hlt : ¬ (g.cats.length : Int) < (g.cats.length : Int) := by omega
    rw [List.take_length] at hw
    simp (maxSteps := 1000000) (disch := omega) only [go_sem, reduceIte, Nat.reduceEqDiff, Nat.reduceAdd, Nat.reduceLeDiff, Nat.reduceLT, Nat.reduceSub, Int.reduceLT, Int.reduceLE, Int.reduceEq, Int.reduceToNat, Option.map_some, List.length_map, List.getElem?_map, Int.toNat_natCast, h3, h1, h4, hG, gx, hlt]
    refine call_boxes (puts_t wStart g.start b w _ hw (by simp only [List.length_append, List.length_cons, List.length_nil]; omega)) rfl ?_
    rintro d b1 ⟨g1, g2⟩
    simp (maxSteps := 1000000) (disch := omega) only [go_sem, reduceIte, Nat.reduceEqDiff, Nat.reduceAdd, Nat.reduceLeDiff, Nat.reduceLT, Nat.reduceSub, Int.reduceLT, Int.reduceLE, Int.reduceEq, Int.reduceToNat, Option.map_some, List.length_map, List.getElem?_map, Int.toNat_natCast, h3, h1, h4]
    refine call_boxes (mark_t [59] b1 d _ g1 (by simp only [List.length_append, List.length_cons, List.length_nil]; omega)) rfl ?_
    rintro d2 b2 ⟨g3, g4⟩
    have hG2 := (g4 1 (by omega)).trans ((g2 1 (by omega)).trans hG)
    clear hw hG g1 g2 g4
    simp (maxSteps := 1000000) (disch := omega) only [go_sem, reduceIte, Nat.reduceEqDiff, Nat.reduceAdd, Nat.reduceLeDiff, Nat.reduceLT, Nat.reduceSub, Int.reduceLT, Int.reduceLE, Int.reduceEq, Int.reduceToNat, Option.map_some, List.length_map, List.getElem?_map, Int.toNat_natCast, h3, h1, h4]
    refine cD_for g.entries.length (fun k σ b => ∃ w, σ 3 = w ∧ σ 1 = .loc 1 1 0 0 ∧ σ 5 = .int .i64 k ∧ b 1 = ⟨1, 1, 6, 27, [gx g]⟩ ∧ OwnT b w ([nT wGrammar, nT g.name] ++ [sT [59]] ++ g.cats.flatMap tokCat ++ [nT wStart, nT g.start] ++ [sT [59]] ++ (g.entries.take k).flatMap tokEntry))
      ⟨d2, by simp [go_sem], by simp [go_sem, h1], by simp [go_sem], hG2, by simpa using g3⟩ ?_ ?_
    · clear h3 h1 h4 g3 hG2 b1 b2 b σ
      rintro k σ b hk ⟨w, h3, h1, h4, hG, hw⟩
      obtain ⟨y, hy⟩ := get_lt hk
      have hlt : (k : Int) < (g.entries.length : Int) := by omega
      have hws : IntKind.i64.wrap ((k : Int) + 1) = ((k + 1 : Nat) : Int) := wrap_succ (by omega)
      have hle := flat_at tokEntry hy
      have hyd : y.d = .agg [.str y.text, .str y.cat, .int .i64 y.no, .sl 1 (y.gives.map D.str), .int .i64 y.cost] := rfl
      have hc1 := putEntry_t y b w _ hw (by simp only [List.length_append, List.length_cons, List.length_nil]; omega) (h.ent y (List.mem_of_getElem? hy))
      rw [hyd] at hc1
      simp (maxSteps := 1000000) (disch := omega) only [go_sem, reduceIte, Nat.reduceEqDiff, Nat.reduceAdd, Nat.reduceLeDiff, Nat.reduceLT, Nat.reduceSub, Int.reduceLT, Int.reduceLE, Int.reduceEq, Int.reduceToNat, Option.map_some, List.length_map, List.getElem?_map, Int.toNat_natCast, h3, h1, h4, hG, gx, hlt, hy, hyd]
      refine call_boxes hc1 rfl ?_
      rintro d' b2 ⟨g3, g4⟩
      simp (maxSteps := 1000000) (disch := omega) only [go_sem, reduceIte, Nat.reduceEqDiff, Nat.reduceAdd, Nat.reduceLeDiff, Nat.reduceLT, Nat.reduceSub, Int.reduceLT, Int.reduceLE, Int.reduceEq, Int.reduceToNat, Option.map_some, List.length_map, List.getElem?_map, Int.toNat_natCast, h3, h1, h4, hws]
      refine ⟨d', rfl, (g4 1 (by omega)).trans hG, ?_⟩
      rw [flat_take tokEntry hy]
      simp only [List.append_assoc] at g3 ⊢
      exact g3
    · clear h3 h1 h4 g3 hG2 b1 b2 b σ
      rintro σ b ⟨w, h3, h1, h4, hG, hw⟩
      have hlt : ¬ (g.entries.length : Int) < (g.entries.length : Int) := by omega
      rw [List.take_length] at hw
      simp (maxSteps := 1000000) (disch := omega) only [go_sem, reduceIte, Nat.reduceEqDiff, Nat.reduceAdd, Nat.reduceLeDiff, Nat.reduceLT, Nat.reduceSub, Int.reduceLT, Int.reduceLE, Int.reduceEq, Int.reduceToNat, Option.map_some, List.length_map, List.getElem?_map, Int.toNat_natCast, h3, h1, h4, hG, gx, hlt]
      refine cD_for g.rules.length (fun k σ b => ∃ w, σ 3 = w ∧ σ 1 = .loc 1 1 0 0 ∧ σ 6 = .int .i64 k ∧ b 1 = ⟨1, 1, 6, 27, [gx g]⟩ ∧ OwnT b w ([nT wGrammar, nT g.name] ++ [sT [59]] ++ g.cats.flatMap tokCat ++ [nT wStart, nT g.start] ++ [sT [59]] ++ g.entries.flatMap tokEntry ++ (g.rules.take k).flatMap tokRule))
        ⟨w, by simp [go_sem, h3], by simp [go_sem, h1], by simp [go_sem], hG, by simpa using hw⟩ ?_ ?_
      · clear h3 h1 h4 hw hG b σ
        rintro k σ b hk ⟨w, h3, h1, h4, hG, hw⟩
        obtain ⟨y, hy⟩ := get_lt hk
        have hlt : (k : Int) < (g.rules.length : Int) := by omega
        have hws : IntKind.i64.wrap ((k : Int) + 1) = ((k + 1 : Nat) : Int) := wrap_succ (by omega)
        have hle := flat_at tokRule hy
        have hyd : y.d = .agg [.str y.cat, .int .i64 y.no, .sl 3 (y.parts.map Part.d), .sl 2 (y.gives.map Give.d), .int .i64 y.cost] := rfl
        have hc1 := putRule_t y b w _ hw (by simp only [List.length_append, List.length_cons, List.length_nil]; omega) (h.rul y (List.mem_of_getElem? hy))
        rw [hyd] at hc1
        simp (maxSteps := 1000000) (disch := omega) only [go_sem, reduceIte, Nat.reduceEqDiff, Nat.reduceAdd, Nat.reduceLeDiff, Nat.reduceLT, Nat.reduceSub, Int.reduceLT, Int.reduceLE, Int.reduceEq, Int.reduceToNat, Option.map_some, List.length_map, List.getElem?_map, Int.toNat_natCast, h3, h1, h4, hG, gx, hlt, hy, hyd]
        refine call_boxes hc1 rfl ?_
        rintro d' b2 ⟨g3, g4⟩
        simp (maxSteps := 1000000) (disch := omega) only [go_sem, reduceIte, Nat.reduceEqDiff, Nat.reduceAdd, Nat.reduceLeDiff, Nat.reduceLT, Nat.reduceSub, Int.reduceLT, Int.reduceLE, Int.reduceEq, Int.reduceToNat, Option.map_some, List.length_map, List.getElem?_map, Int.toNat_natCast, h3, h1, h4, hws]
        refine ⟨d', rfl, (g4 1 (by omega)).trans hG, ?_⟩
        rw [flat_take tokRule hy]
        simp only [List.append_assoc] at g3 ⊢
        exact g3
      · clear h3 h1 h4 hw hG b σ
        rintro σ b ⟨w, h3, h1, h4, hG, hw⟩
        have hlt : ¬ (g.rules.length : Int) < (g.rules.length : Int) := by omega
        rw [List.take_length] at hw
        obtain ⟨r, o1, o2⟩ := own_outs hw (pureL_toks _)
        have ho := o2 b fun _ _ => rfl
        simp (maxSteps := 1000000) (disch := omega) only [go_sem, reduceIte, Nat.reduceEqDiff, Nat.reduceAdd, Nat.reduceLeDiff, Nat.reduceLT, Nat.reduceSub, Int.reduceLT, Int.reduceLE, Int.reduceEq, Int.reduceToNat, Option.map_some, List.length_map, List.getElem?_map, Int.toNat_natCast, h3, h1, h4, hG, gx, hlt, ho]
        have : tokensOf g = [nT wGrammar, nT g.name] ++ ([sT [59]] ++ (g.cats.flatMap tokCat ++ ([nT wStart, nT g.start] ++ ([sT [59]] ++ (g.entries.flatMap tokEntry ++ g.rules.flatMap tokRule))))) := by
          simp [tokensOf, tokHead]
        rw [this]
        simp only [List.append_assoc] at o1
        exact o1
theorem tokens_rc (g : Gram) (h : Pr g) : CallsTo Tryz.prog 30 [gx g] (.sl 4 ((tokensOf g).map Tok.d)) := fn_calls mixed (tokens_d g h) rfl (by kernel_rfl) rfl
end Go.V.Gr
