/-
  Grammar: the statement GrammarMore on data.
-/
import Derived.Test.YtiolflfjekiboaaGreatDoorGv
import Derived.Test.YtiolflfjekiboaaGreatDoorGn
namespace Go.V.Gr
open Go.Proofs Go.RowKit Go.V.Lx
set_option linter.unusedSimpArgs false
set_option linter.unusedVariables false
set_option maxRecDepth 100000

theorem okG_zero {g : Gram} (h : (printL g).2 = 0) : okG g := by
  apply Classical.byContradiction
  intro hn
  rw [printL_no hn] at h
  exact absurd h (show ¬ ((250 : Int) = 0) by decide)
theorem st_head {g : Gram} (h : St g) : St (headG g) := ⟨h.name, h.start, h.cats, h.ents, fun x hx => by cases hx⟩
theorem st_tail {g : Gram} {x : Entry} (h : St g) (hx : StE x) : St (tailG g x) := ⟨h.name, h.start, h.cats, fun y hy => by simp [tailG] at hy; subst hy; exact hx, fun x hx => by cases hx⟩
theorem st_bare {g : Gram} (h : St g) : St (bareG g) := ⟨h.name, h.start, h.cats, (fun x hx => by cases hx), (fun x hx => by cases hx)⟩
theorem few_head {g : Gram} (h : Few g) : Few (headG g) := ⟨h.cats, h.ents, by simp [headG], h.ent, fun x hx => by cases hx⟩
theorem few_tail {g : Gram} {x : Entry} (h : Few g) (hx : x.gives.length ≤ 10) : Few (tailG g x) := ⟨h.cats, by simp [tailG], by simp [tailG], fun y hy => by simp [tailG] at hy; subst hy; exact hx, fun x hx => by cases hx⟩
theorem few_bare {g : Gram} (h : Few g) : Few (bareG g) := ⟨h.cats, by simp [bareG], by simp [bareG], (fun x hx => by cases hx), (fun x hx => by cases hx)⟩
theorem txt_bound {l : List Tk} (hv : l.all validB = true) : (txt l).length ≤ 46 * l.length := by
  have h1 := join_len l hv
  have h2 := valid_sum hv
  simp only [txt]
  omega
theorem drawD_gen {P : Program} {C : Calc} {full : List Oper} {Pn : D → Bxs → Prop} {Q : Env → Bxs → Prop} {σ : Env} {bx : Bxs} (F : Bxs → Prop) (hF : F bx) (h : ∀ b, F b → drawD P C full Pn Q σ b) : drawD P C full Pn Q σ bx := h bx hF
set_option maxHeartbeats 8000000 in
theorem more_d (g : Gram) (x : Entry) (hz : Sz g) (hst : St g) (hx : StE x) (hxg : x.gives.length ≤ M) : fnD Tryz.prog (orac Tryz.prog) [(2000018, []), (1000114, []), (5, [(5, 3), (4, 3), (5, 2), (4, 2), (3, 2), (4, 1)]), (16, [(8, 3)]), (18, [(8, 6), (8, 4), (5, 4), (8, 3), (6, 3), (5, 3)])] Tryz.f9 [g.d, x.d] (.bool true) := by
  refine fn_intro _ [.tmp 4] _ rfl rfl rfl (by kernel_rfl) ?_
  have hxd : x.d = .agg [.str x.text, .str x.cat, .int .i64 x.no, .sl 1 (x.gives.map D.str), .int .i64 x.cost] := rfl
  have cf := few_x hz hst
  have hgp := gx_pure g
  simp only [gx] at cf hgp
  rw [gx_eq, hxd]
  simp (maxSteps := 1000000) (disch := omega) only [go_sem, reduceIte, Nat.reduceEqDiff, Nat.reduceAdd, Nat.reduceLeDiff, Nat.reduceLT, Nat.reduceSub, Int.reduceLT, Int.reduceLE, Int.reduceEq, Int.reduceToNat, Option.map_some, List.length_map, List.getElem?_map, Int.toNat_natCast, gx]
  refine call_pure sane_c rfl ?_
  simp (maxSteps := 1000000) (disch := omega) only [go_sem, reduceIte, Nat.reduceEqDiff, Nat.reduceAdd, Nat.reduceLeDiff, Nat.reduceLT, Nat.reduceSub, Int.reduceLT, Int.reduceLE, Int.reduceEq, Int.reduceToNat, Option.map_some, List.length_map, List.getElem?_map, Int.toNat_natCast, gx]
  refine call_pure cf hgp ?_
  simp (maxSteps := 1000000) (disch := omega) only [go_sem, reduceIte, Nat.reduceEqDiff, Nat.reduceAdd, Nat.reduceLeDiff, Nat.reduceLT, Nat.reduceSub, Int.reduceLT, Int.reduceLE, Int.reduceEq, Int.reduceToNat, Option.map_some, List.length_map, List.getElem?_map, Int.toNat_natCast, gx]
  cases hf : fewG g with
  | false =>
    simp (maxSteps := 1000000) (disch := omega) only [go_sem, reduceIte, Nat.reduceEqDiff, Nat.reduceAdd, Nat.reduceLeDiff, Nat.reduceLT, Nat.reduceSub, Int.reduceLT, Int.reduceLE, Int.reduceEq, Int.reduceToNat, Option.map_some, List.length_map, List.getElem?_map, Int.toNat_natCast, hf]
    exact .refl _
  | true =>
  by_cases h10 : 10 < (x.gives.length : Int)
  · simp (maxSteps := 1000000) (disch := omega) only [go_sem, reduceIte, Nat.reduceEqDiff, Nat.reduceAdd, Nat.reduceLeDiff, Nat.reduceLT, Nat.reduceSub, Int.reduceLT, Int.reduceLE, Int.reduceEq, Int.reduceToNat, Option.map_some, List.length_map, List.getElem?_map, Int.toNat_natCast, h10]
    exact .refl _
  simp (maxSteps := 1000000) (disch := omega) only [go_sem, reduceIte, Nat.reduceEqDiff, Nat.reduceAdd, Nat.reduceLeDiff, Nat.reduceLT, Nat.reduceSub, Int.reduceLT, Int.reduceLE, Int.reduceEq, Int.reduceToNat, Option.map_some, List.length_map, List.getElem?_map, Int.toNat_natCast, h10]
  have hfw := few_of hf
  have c1 := print_x (hfw.pr hst)
  have c2 := (print_x ((few_head hfw).pr (st_head hst))).weak1 (x := .agg [.str g.name, .sl 1 (g.cats.map D.str), .str g.start, .int .i64 g.no, .sl 5 (g.entries.map Entry.d), .nilsl]) (weak_agg6 (.refl _) (.refl _) (.refl _) (.refl _) (.refl _) (.nil _))
  have c3 := (print_x ((few_tail hfw (by omega)).pr (st_tail hst hx))).weak1 (x := .agg [.str g.name, .sl 1 (g.cats.map D.str), .str g.start, .int .i64 g.no, .sl 5 [.agg [.str x.text, .str x.cat, .int .i64 x.no, .sl 1 (x.gives.map D.str), .int .i64 x.cost]], .nilsl]) (weak_agg6 (.refl _) (.refl _) (.refl _) (.refl _) (.refl _) (.nil _))
  have c4 := (print_x ((few_bare hfw).pr (st_bare hst))).weak1 (x := .agg [.str g.name, .sl 1 (g.cats.map D.str), .str g.start, .int .i64 0, .nilsl, .nilsl]) (weak_agg6 (.refl _) (.refl _) (.refl _) (.refl _) (.nil _) (.nil _))
  simp only [gx] at c1
  refine call_pure c1 hgp ?_
  simp (maxSteps := 1000000) (disch := omega) only [go_sem, reduceIte, Nat.reduceEqDiff, Nat.reduceAdd, Nat.reduceLeDiff, Nat.reduceLT, Nat.reduceSub, Int.reduceLT, Int.reduceLE, Int.reduceEq, Int.reduceToNat, Option.map_some, List.length_map, List.getElem?_map, Int.toNat_natCast]
  refine call_pure c2 (by simp [D.pureL, D.pure, pureL_strs, pure_ent]) ?_
  simp (maxSteps := 1000000) (disch := omega) only [go_sem, reduceIte, Nat.reduceEqDiff, Nat.reduceAdd, Nat.reduceLeDiff, Nat.reduceLT, Nat.reduceSub, Int.reduceLT, Int.reduceLE, Int.reduceEq, Int.reduceToNat, Option.map_some, List.length_map, List.getElem?_map, Int.toNat_natCast]
  refine call_pure c3 (by simp [D.pureL, D.pure, pureL_strs, pure_ent]) ?_
  simp (maxSteps := 1000000) (disch := omega) only [go_sem, reduceIte, Nat.reduceEqDiff, Nat.reduceAdd, Nat.reduceLeDiff, Nat.reduceLT, Nat.reduceSub, Int.reduceLT, Int.reduceLE, Int.reduceEq, Int.reduceToNat, Option.map_some, List.length_map, List.getElem?_map, Int.toNat_natCast]
  refine call_pure c4 (by simp [D.pureL, D.pure, pureL_strs, pure_ent]) ?_
  by_cases e1 : (printL g).2 = 0
  case neg =>
    simp (maxSteps := 1000000) (disch := omega) only [go_sem, reduceIte, Nat.reduceEqDiff, Nat.reduceAdd, Nat.reduceLeDiff, Nat.reduceLT, Nat.reduceSub, Int.reduceLT, Int.reduceLE, Int.reduceEq, Int.reduceToNat, Option.map_some, List.length_map, List.getElem?_map, Int.toNat_natCast, e1]
    exact .refl _
  by_cases e2 : (printL (headG g)).2 = 0
  case neg =>
    simp (maxSteps := 1000000) (disch := omega) only [go_sem, reduceIte, Nat.reduceEqDiff, Nat.reduceAdd, Nat.reduceLeDiff, Nat.reduceLT, Nat.reduceSub, Int.reduceLT, Int.reduceLE, Int.reduceEq, Int.reduceToNat, Option.map_some, List.length_map, List.getElem?_map, Int.toNat_natCast, e1, e2]
    exact .refl _
  by_cases e3 : (printL (tailG g x)).2 = 0
  case neg =>
    simp (maxSteps := 1000000) (disch := omega) only [go_sem, reduceIte, Nat.reduceEqDiff, Nat.reduceAdd, Nat.reduceLeDiff, Nat.reduceLT, Nat.reduceSub, Int.reduceLT, Int.reduceLE, Int.reduceEq, Int.reduceToNat, Option.map_some, List.length_map, List.getElem?_map, Int.toNat_natCast, e1, e2, e3]
    exact .refl _
  by_cases e4 : (printL (bareG g)).2 = 0
  case neg =>
    simp (maxSteps := 1000000) (disch := omega) only [go_sem, reduceIte, Nat.reduceEqDiff, Nat.reduceAdd, Nat.reduceLeDiff, Nat.reduceLT, Nat.reduceSub, Int.reduceLT, Int.reduceLE, Int.reduceEq, Int.reduceToNat, Option.map_some, List.length_map, List.getElem?_map, Int.toNat_natCast, e1, e2, e3, e4]
    exact .refl _
  simp (maxSteps := 1000000) (disch := omega) only [go_sem, reduceIte, Nat.reduceEqDiff, Nat.reduceAdd, Nat.reduceLeDiff, Nat.reduceLT, Nat.reduceSub, Int.reduceLT, Int.reduceLE, Int.reduceEq, Int.reduceToNat, Option.map_some, List.length_map, List.getElem?_map, Int.toNat_natCast, e1, e2, e3, e4]
  have k1 := okG_zero e1
  have k2 := okG_zero e2
  have k3 := okG_zero e3
  have k4 := okG_zero e4
  have b1 := txt_bound k1.1
  have b2 := txt_bound k2.1
  have b3 := txt_bound k3.1
  have b4 := txt_bound k4.1
  have n1 := (hfw.pr hst).n
  have n2 := ((few_head hfw).pr (st_head hst)).n
  have n3 := ((few_tail (x := x) hfw (by omega)).pr (st_tail hst hx)).n
  have n4 := ((few_bare hfw).pr (st_bare hst)).n
  rw [printL_ok k1, printL_ok k2, printL_ok k3, printL_ok k4]
  have ml : (txt (tokensOf g)).length + (txt (tokensOf (tailG g x))).length ≤ 65536 → _ := fun h => more_law k1 k3 h
  have mt : moreT g x = txt (tokensOf (headG g)) ++ [10] ++ (txt (tokensOf (tailG g x))).drop (txt (tokensOf (bareG g))).length ++ [10] ++ (txt (tokensOf g)).drop (txt (tokensOf (headG g))).length := rfl
  rw [mt] at ml
  simp only [txt] at b1 b2 b3 b4 ml ⊢
  generalize Lib.join ((tokensOf g).map word) [32] = A at *
  generalize Lib.join ((tokensOf (headG g)).map word) [32] = B at *
  generalize Lib.join ((tokensOf (tailG g x)).map word) [32] = C at *
  generalize Lib.join ((tokensOf (bareG g)).map word) [32] = E at *
  have hw : IntKind.i64.wrap ((A.length : Int) + (C.length : Int)) = ((A.length + C.length : Nat) : Int) := by rw [wrap_i64 (by omega) (by omega)]; omega
  by_cases h11 : (65536 : Int) < ((A.length + C.length : Nat) : Int)
  · simp (maxSteps := 1000000) (disch := omega) only [go_sem, reduceIte, Nat.reduceEqDiff, Nat.reduceAdd, Nat.reduceLeDiff, Nat.reduceLT, Nat.reduceSub, Int.reduceLT, Int.reduceLE, Int.reduceEq, Int.reduceToNat, Option.map_some, List.length_map, List.getElem?_map, Int.toNat_natCast, hw, h11]
    exact .refl _
  obtain ⟨m1, m2, m3, m4, m5, m6⟩ := ml (by omega)
  have p1 := hasPrefix_c A B
  have p2 := hasPrefix_c C E
  rw [m1] at p1
  rw [m2] at p2
  have c5 := parse_x (B ++ [10] ++ C.drop E.length ++ [10] ++ A.drop B.length) (show _ ≤ 140737488355328 by omega)
  rw [m4] at c5
  simp only [gx] at c5
  have hzw : Sz (wantG g x) := ⟨hz.cats, by
    show (g.entries ++ [x]).length ≤ 140737488355328
    rw [List.length_append]; have := hfw.ents; simp only [List.length_cons, List.length_nil]; omega, hz.ruls, fun y hy => by
    rcases List.mem_append.1 hy with hy | hy
    · exact hz.ent y hy
    · simp at hy; subst hy; exact hxg, hz.rul⟩
  have c6 := same_x hzw hzw
  rw [decide_eq_true rfl] at c6
  have l1 : (B ++ [10]).length = B.length + 1 := by rw [List.length_append]; rfl
  have t1 : (C.drop E.length).take (C.length - E.length) = C.drop E.length := List.take_of_length_le (by rw [List.length_drop]; omega)
  have t2 : (A.drop B.length).take (A.length - B.length) = A.drop B.length := List.take_of_length_le (by rw [List.length_drop]; omega)
  have l2 : (B ++ [10] ++ C.drop E.length).length = B.length + 1 + (C.length - E.length) := by rw [List.length_append, l1, List.length_drop]
  have l3 : (B ++ [10] ++ C.drop E.length ++ [10]).length = B.length + 1 + (C.length - E.length) + 1 := by rw [List.length_append, l2]; rfl
  have l4 : (C.drop E.length).length = C.length - E.length := List.length_drop
  have l5 : (A.drop B.length).length = A.length - B.length := List.length_drop
  have l6 : ([10] : Str).length = 1 := rfl
  have i1 : (E.length : Int) ≤ (C.length : Int) := by omega
  have i2 : (B.length : Int) ≤ (A.length : Int) := by omega
  simp (maxSteps := 1000000) (disch := omega) only [go_sem, reduceIte, Nat.reduceEqDiff, Nat.reduceAdd, Nat.reduceLeDiff, Nat.reduceLT, Nat.reduceSub, Int.reduceLT, Int.reduceLE, Int.reduceEq, Int.reduceToNat, Option.map_some, List.length_map, List.getElem?_map, Int.toNat_natCast, hw, h11]
  refine call_pure p1 (by simp [go_sem]) ?_
  simp (maxSteps := 1000000) (disch := omega) only [go_sem, reduceIte, Nat.reduceEqDiff, Nat.reduceAdd, Nat.reduceLeDiff, Nat.reduceLT, Nat.reduceSub, Int.reduceLT, Int.reduceLE, Int.reduceEq, Int.reduceToNat, Option.map_some, List.length_map, List.getElem?_map, Int.toNat_natCast]
  refine call_pure p2 (by simp [go_sem]) ?_
  simp (maxSteps := 1000000) (disch := omega) only [go_sem, reduceIte, Nat.reduceEqDiff, Nat.reduceAdd, Nat.reduceLeDiff, Nat.reduceLT, Nat.reduceSub, Int.reduceLT, Int.reduceLE, Int.reduceEq, Int.reduceToNat, Option.map_some, List.length_map, List.getElem?_map, Int.toNat_natCast, t1, t2, i1, i2]
  refine call_pure c5 (by simp [go_sem]) ?_
  simp (maxSteps := 1000000) (disch := omega) only [go_sem, reduceIte, Nat.reduceEqDiff, Nat.reduceAdd, Nat.reduceLeDiff, Nat.reduceLT, Nat.reduceSub, Int.reduceLT, Int.reduceLE, Int.reduceEq, Int.reduceToNat, Option.map_some, List.length_map, List.getElem?_map, Int.toNat_natCast]
  refine drawD_gen (fun b => b 2 = ⟨1, 1, 6, 27, [gx g]⟩ ∧ b 3 = ⟨1, 1, 5, 52, [.agg [.str x.text, .str x.cat, .int .i64 x.no, .sl 1 (x.gives.map D.str), .int .i64 x.cost]]⟩ ∧ b 15 = ⟨1, 1, 6, 27, [gx (wantG g x)]⟩ ∧ b 18 = ⟨1, 1, 6, 27, [gx g]⟩) ⟨by simp [upd, gx], by simp [upd], by simp [upd, gx], by simp [upd, gx]⟩ fun b ⟨f2, f3, f15, f18⟩ => ?_
  refine draw_by (.light 1 (.load 2 2 (.load 4 3 (.both 0 [2, 3] (.both 3 [3] (.both 5 [2] (.both 6 [] (.light 7 (.both 8 [] .fin .stop)) .stop) .stop) (.both 5 [2] (.both 3 [3] (.both 6 [] (.light 7 (.both 8 [] .fin .stop)) .stop) .stop) .stop)) (.both 5 [2, 3] (.both 0 [2, 3] (.both 3 [3] (.both 6 [] (.light 7 (.both 8 [] .fin .stop)) .stop) .stop) .stop) .stop))))) (by kernel_rfl) ?_
  simp only [gx] at f2 f3 f15 f18
  simp (maxSteps := 1000000) (disch := omega) only [go_sem, reduceIte, Nat.reduceEqDiff, Nat.reduceAdd, Nat.reduceLeDiff, Nat.reduceLT, Nat.reduceSub, Int.reduceLT, Int.reduceLE, Int.reduceEq, Int.reduceToNat, Option.map_some, List.length_map, List.getElem?_map, Int.toNat_natCast, f2, f3, f15, f18]
  have hel := hfw.ents
  refine ⟨⟨?_, ?_⟩, ?_⟩
  · skip
    refine append_any (xs := []) (ts := [114]) (OwnV.mk (t := 114) (List.mem_cons_self ..) (upd_same _ _ _)) (by simp [go_sem]) (by simp only [List.length_map, List.length_nil]; omega) (by omega) (by omega) (fun q hq => Nat.zero_le _) (fun x' b1 g1 g2 => ?_)
    have q3 : b1 3 = b 3 := (g2 3 (by decide) (by decide)).trans (upd_ne (by decide))
    have q15 : b1 15 = b 15 := (g2 15 (by decide) (by decide)).trans (upd_ne (by decide))
    have q18 : b1 18 = b 18 := (g2 18 (by decide) (by decide)).trans (upd_ne (by decide))
    rw [List.nil_append] at g1
    simp (maxSteps := 1000000) (disch := omega) only [go_sem, reduceIte, Nat.reduceEqDiff, Nat.reduceAdd, Nat.reduceLeDiff, Nat.reduceLT, Nat.reduceSub, Int.reduceLT, Int.reduceLE, Int.reduceEq, Int.reduceToNat, Option.map_some, List.length_map, List.getElem?_map, Int.toNat_natCast, q3, f3, q15, f15, q18, f18]
    refine append_own g1 (by simp) (by simp [go_sem]) (by simp only [List.length_map, List.length_cons, List.length_nil]; omega) (by omega) (by omega) (fun q hq => Nat.zero_le _) (fun e' b2 k1 k2 => ?_)
    have r15 := (k2 15 (by decide) (by decide)).trans (q15.trans f15)
    have r18 := (k2 18 (by decide) (by decide)).trans (q18.trans f18)
    have hent : g.entries.map Entry.d ++ [.agg [.str x.text, .str x.cat, .int .i64 x.no, .sl 1 (x.gives.map D.str), .int .i64 x.cost]] = (wantG g x).entries.map Entry.d := by simp [wantG, Entry.d, strs]
    rw [hent] at k1 ⊢
    simp (maxSteps := 1000000) (disch := omega) only [go_sem, reduceIte, Nat.reduceEqDiff, Nat.reduceAdd, Nat.reduceLeDiff, Nat.reduceLT, Nat.reduceSub, Int.reduceLT, Int.reduceLE, Int.reduceEq, Int.reduceToNat, Option.map_some, List.length_map, List.getElem?_map, Int.toNat_natCast, r15, r18, k1]
    have ho : ∀ v, outD (upd b2 18 v) (.osl 120 e' 5 0 (wantG g x).entries.length) = some (.sl 5 ((wantG g x).entries.map Entry.d)) := fun v => by
      rw [outD_osl, upd_ne (by decide), k1]
      exact outB_all _ _ _ _ _ _ (by decide) (by simp) (pure_ent _)
    refine call_frz (show CallsTo _ _ [D.agg [.str (wantG g x).name, .sl 1 ((wantG g x).cats.map D.str), .str (wantG g x).start, .int .i64 (wantG g x).no, .sl 5 ((wantG g x).entries.map Entry.d), .sl 5 ((wantG g x).rules.map Rule.d)], D.agg [.str g.name, .sl 1 (g.cats.map D.str), .str g.start, .int .i64 g.no, .sl 5 ((wantG g x).entries.map Entry.d), .sl 5 (g.rules.map Rule.d)]] _ from c6) (by simp only [outL_cons, outL_nil, outD_agg, outD_str, outD_int, outD_sl, ho, consO_some, Option.map_some]) rfl ?_
    simp (maxSteps := 1000000) (disch := omega) only [go_sem, reduceIte, Nat.reduceEqDiff, Nat.reduceAdd, Nat.reduceLeDiff, Nat.reduceLT, Nat.reduceSub, Int.reduceLT, Int.reduceLE, Int.reduceEq, Int.reduceToNat, Option.map_some, List.length_map, List.getElem?_map, Int.toNat_natCast]
    exact .refl _
  · skip
    refine append_any (xs := []) (ts := [114]) (OwnV.mk (t := 114) (List.mem_cons_self ..) (upd_same _ _ _)) (by simp [go_sem]) (by simp only [List.length_map, List.length_nil]; omega) (by omega) (by omega) (fun q hq => Nat.zero_le _) (fun x' b1 g1 g2 => ?_)
    have q3 : b1 3 = b 3 := (g2 3 (by decide) (by decide)).trans (upd_ne (by decide))
    have q15 : b1 15 = b 15 := (g2 15 (by decide) (by decide)).trans (upd_ne (by decide))
    have q18 : b1 18 = b 18 := (g2 18 (by decide) (by decide)).trans (upd_ne (by decide))
    rw [List.nil_append] at g1
    simp (maxSteps := 1000000) (disch := omega) only [go_sem, reduceIte, Nat.reduceEqDiff, Nat.reduceAdd, Nat.reduceLeDiff, Nat.reduceLT, Nat.reduceSub, Int.reduceLT, Int.reduceLE, Int.reduceEq, Int.reduceToNat, Option.map_some, List.length_map, List.getElem?_map, Int.toNat_natCast, q3, f3, q15, f15, q18, f18]
    refine append_own g1 (by simp) (by simp [go_sem]) (by simp only [List.length_map, List.length_cons, List.length_nil]; omega) (by omega) (by omega) (fun q hq => Nat.zero_le _) (fun e' b2 k1 k2 => ?_)
    have r15 := (k2 15 (by decide) (by decide)).trans (q15.trans f15)
    have r18 := (k2 18 (by decide) (by decide)).trans (q18.trans f18)
    have hent : g.entries.map Entry.d ++ [.agg [.str x.text, .str x.cat, .int .i64 x.no, .sl 1 (x.gives.map D.str), .int .i64 x.cost]] = (wantG g x).entries.map Entry.d := by simp [wantG, Entry.d, strs]
    rw [hent] at k1 ⊢
    simp (maxSteps := 1000000) (disch := omega) only [go_sem, reduceIte, Nat.reduceEqDiff, Nat.reduceAdd, Nat.reduceLeDiff, Nat.reduceLT, Nat.reduceSub, Int.reduceLT, Int.reduceLE, Int.reduceEq, Int.reduceToNat, Option.map_some, List.length_map, List.getElem?_map, Int.toNat_natCast, r15, r18, k1]
    have ho : ∀ v, outD (upd b2 18 v) (.osl 120 e' 5 0 (wantG g x).entries.length) = some (.sl 5 ((wantG g x).entries.map Entry.d)) := fun v => by
      rw [outD_osl, upd_ne (by decide), k1]
      exact outB_all _ _ _ _ _ _ (by decide) (by simp) (pure_ent _)
    refine call_frz (show CallsTo _ _ [D.agg [.str (wantG g x).name, .sl 1 ((wantG g x).cats.map D.str), .str (wantG g x).start, .int .i64 (wantG g x).no, .sl 5 ((wantG g x).entries.map Entry.d), .sl 5 ((wantG g x).rules.map Rule.d)], D.agg [.str g.name, .sl 1 (g.cats.map D.str), .str g.start, .int .i64 g.no, .sl 5 ((wantG g x).entries.map Entry.d), .sl 5 (g.rules.map Rule.d)]] _ from c6) (by simp only [outL_cons, outL_nil, outD_agg, outD_str, outD_int, outD_sl, ho, consO_some, Option.map_some]) rfl ?_
    simp (maxSteps := 1000000) (disch := omega) only [go_sem, reduceIte, Nat.reduceEqDiff, Nat.reduceAdd, Nat.reduceLeDiff, Nat.reduceLT, Nat.reduceSub, Int.reduceLT, Int.reduceLE, Int.reduceEq, Int.reduceToNat, Option.map_some, List.length_map, List.getElem?_map, Int.toNat_natCast]
    exact .refl _
  · skip
    refine append_any (xs := []) (ts := [114]) (OwnV.mk (t := 114) (List.mem_cons_self ..) (upd_same _ _ _)) (by simp [go_sem]) (by simp only [List.length_map, List.length_nil]; omega) (by omega) (by omega) (fun q hq => Nat.zero_le _) (fun x' b1 g1 g2 => ?_)
    have q3 : b1 3 = b 3 := (g2 3 (by decide) (by decide)).trans (upd_ne (by decide))
    have q15 : b1 15 = b 15 := (g2 15 (by decide) (by decide)).trans (upd_ne (by decide))
    have q18 : b1 18 = b 18 := (g2 18 (by decide) (by decide)).trans (upd_ne (by decide))
    rw [List.nil_append] at g1
    simp (maxSteps := 1000000) (disch := omega) only [go_sem, reduceIte, Nat.reduceEqDiff, Nat.reduceAdd, Nat.reduceLeDiff, Nat.reduceLT, Nat.reduceSub, Int.reduceLT, Int.reduceLE, Int.reduceEq, Int.reduceToNat, Option.map_some, List.length_map, List.getElem?_map, Int.toNat_natCast, q3, f3, q15, f15, q18, f18]
    refine append_own g1 (by simp) (by simp [go_sem]) (by simp only [List.length_map, List.length_cons, List.length_nil]; omega) (by omega) (by omega) (fun q hq => Nat.zero_le _) (fun e' b2 k1 k2 => ?_)
    have r15 := (k2 15 (by decide) (by decide)).trans (q15.trans f15)
    have r18 := (k2 18 (by decide) (by decide)).trans (q18.trans f18)
    have hent : g.entries.map Entry.d ++ [.agg [.str x.text, .str x.cat, .int .i64 x.no, .sl 1 (x.gives.map D.str), .int .i64 x.cost]] = (wantG g x).entries.map Entry.d := by simp [wantG, Entry.d, strs]
    rw [hent] at k1 ⊢
    simp (maxSteps := 1000000) (disch := omega) only [go_sem, reduceIte, Nat.reduceEqDiff, Nat.reduceAdd, Nat.reduceLeDiff, Nat.reduceLT, Nat.reduceSub, Int.reduceLT, Int.reduceLE, Int.reduceEq, Int.reduceToNat, Option.map_some, List.length_map, List.getElem?_map, Int.toNat_natCast, r15, r18, k1]
    have ho : ∀ v, outD (upd b2 18 v) (.osl 120 e' 5 0 (wantG g x).entries.length) = some (.sl 5 ((wantG g x).entries.map Entry.d)) := fun v => by
      rw [outD_osl, upd_ne (by decide), k1]
      exact outB_all _ _ _ _ _ _ (by decide) (by simp) (pure_ent _)
    refine call_frz (show CallsTo _ _ [D.agg [.str (wantG g x).name, .sl 1 ((wantG g x).cats.map D.str), .str (wantG g x).start, .int .i64 (wantG g x).no, .sl 5 ((wantG g x).entries.map Entry.d), .sl 5 ((wantG g x).rules.map Rule.d)], D.agg [.str g.name, .sl 1 (g.cats.map D.str), .str g.start, .int .i64 g.no, .sl 5 ((wantG g x).entries.map Entry.d), .sl 5 (g.rules.map Rule.d)]] _ from c6) (by simp only [outL_cons, outL_nil, outD_agg, outD_str, outD_int, outD_sl, ho, consO_some, Option.map_some]) rfl ?_
    simp (maxSteps := 1000000) (disch := omega) only [go_sem, reduceIte, Nat.reduceEqDiff, Nat.reduceAdd, Nat.reduceLeDiff, Nat.reduceLT, Nat.reduceSub, Int.reduceLT, Int.reduceLE, Int.reduceEq, Int.reduceToNat, Option.map_some, List.length_map, List.getElem?_map, Int.toNat_natCast]
    exact .refl _
theorem more_c (g : Gram) (x : Entry) (hz : Sz g) (hst : St g) (hx : StE x) (hxg : x.gives.length ≤ M) : CallsTo Tryz.prog 9 [g.d, x.d] (.bool true) := fn_calls mixed (more_d g x hz hst hx hxg) rfl (by kernel_rfl) rfl
end Go.V.Gr
