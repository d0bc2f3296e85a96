/-
  Types: the reference's reach.
-/
import Derived.Test.YtjeeajcllokafaaDoorRg
namespace Go.V.Ty
open Go.Proofs Go.RowKit Go.V.Lx Go.V.Gr
set_option linter.unusedSimpArgs false
set_option linter.unusedVariables false
set_option maxRecDepth 100000

/-- the worklist: a slice of one's own that begins behind its variable's beginning -/
def Que (bx : Bxs) (x : D) (l : List Str) : Prop := ∃ t e o es, (t = 12 ∨ t = 66) ∧ x = .osl t e 1 o l.length ∧ bx t = ⟨e, 1, 1, 9, es⟩ ∧ o + l.length = es.length ∧ es.drop o = l.map D.str
theorem Que.of {bx bx' : Bxs} {x : D} {l : List Str} (h : Que bx x l) (hb : ∀ q, q = 12 ∨ q = 66 → bx' q = bx q) : Que bx' x l := by
  obtain ⟨t, e, o, es, ht, h1, h2, h3⟩ := h
  exact ⟨t, e, o, es, ht, h1, by rw [hb t ht]; exact h2, h3⟩
theorem edge_one {x : Rule} {p : Str × Str} (h : edge x = some p) : ∃ q, x.parts = [q] ∧ p = (x.cat, q.cat) := by
  unfold edge at h
  split at h
  · rename_i q hq
    split at h
    · exact ⟨q, hq, by simpa using h.symm⟩
    · cases h
  · cases h
theorem push_no {c : Str} {p : List Str × List Str} {x : Rule} (h : ∀ a d, edge x = some (a, d) → a ≠ c ∨ d ∈ p.1) : push c p x = p := by
  unfold push
  cases he : edge x with
  | none => rfl
  | some q =>
    obtain ⟨a, d⟩ := q
    dsimp only
    rw [if_neg fun hh => (h a d he).elim (fun h => h hh.1) fun h => hh.2 h]
theorem push_yes {c d : Str} {p : List Str × List Str} {x : Rule} (h : edge x = some (c, d)) (hd : ¬ d ∈ p.1) : push c p x = (p.1 ++ [d], p.2 ++ [d]) := by
  unfold push
  rw [h]
  dsimp only
  rw [if_pos ⟨rfl, hd⟩]
/-- the worklist's inner round, i rules on -/
def stp (c : Str) (rs : List Rule) (p : List Str × List Str) (i : Nat) : List Str × List Str := (rs.take i).foldl (push c) p
theorem take_push {c : Str} {p0 : List Str × List Str} {l : List Rule} {i : Nat} {x : Rule} (h : l[i]? = some x) : stp c l p0 (i + 1) = push c (stp c l p0 i) x := by
  rw [stp, List.take_add_one, h, List.foldl_append]; rfl
set_option maxHeartbeats 8000000 in
theorem reach_d (g : Gram) (s : Str) (hg : SmG g) (hr : g.rules.length ≤ 128) : fnB Tryd.prog (orac Tryd.prog) [(1000010, []), (1000012, []), (3000066, [])] Tryd.f27 0 [g.d, .str s] (fun _ => .none) (fun d bx => ∃ r, outD bx d = some r ∧ Weak r (strs (reachL g.rules s))) (fun _ _ => False) := by
  refine fnB_intro _ [.tmp 4] 68 rfl rfl rfl (by kernel_rfl) ?_
  have hgd : g.d = .agg [.str g.name, .sl 1 (g.cats.map D.str), .str g.start, .int .i64 g.no, .sl 5 (g.entries.map Entry.d), .sl 5 (g.rules.map Rule.d)] := rfl
  simp (maxSteps := 1000000) (disch := omega) only [go_sem, hgd]
  refine cD_for (g.rules.length + 1) (fun j σ bx => σ 2 = .loc 2 1 0 0 ∧ bx 2 = ⟨1, 1, 6, 26, [g.d]⟩ ∧ ∃ out todo, OwnV bx [10, 58] 9 1 (σ 5) (out.map D.str) ∧ Que bx (σ 6) todo ∧ Work g.rules s out todo ∧ todo.length + g.rules.length ≤ g.rules.length + 1 - j + out.length ∧ run g.rules (g.rules.length + 1 - j) (out, todo) = reachL g.rules s) ?_ ?_ ?_
  · simp (maxSteps := 1000000) (disch := omega) only [go_sem, hgd]
    refine ⟨[], [s], ?_, ?_, ?_, ?_, ?_⟩
    · exact OwnV.mk (xs := []) (t := 10) (by simp) (by simp [upd])
    · exact ⟨12, _, 0, _, .inl rfl, rfl, by simp [upd]; rfl, by simp, by simp⟩
    · exact ⟨.nil, by simp, by simp, by simp, fun c hc hn d he => by
        rcases hc with rfl | hc
        · simp at hn
        · simp at hc⟩
    · simp; omega
    · rfl
  · rintro j σ bx hj ⟨q2, b2, out, todo, ov, qv, hw, hn, hrun⟩
    have hol : out.length ≤ g.rules.length := Nat.le_trans (nodup_le hw.nodup hw.sub) (targets_len _)
    obtain ⟨t, e, o, es, ht, h6, bt, he1, he2⟩ := qv
    cases todo with
    | nil =>
      have hz : ¬ (0 : Int) < ((([] : List Str).length : Nat) : Int) := by simp
      simp (maxSteps := 1000000) (disch := omega) only [go_sem, h6, hz, decide_false]
      obtain ⟨r, hr1, hr2⟩ := ov.out (pureL_strs _)
      have : out = reachL g.rules s := by rw [← hrun]; unfold run; rfl
      exact ⟨r, hr1, by rw [← this]; exact hr2⟩
    | cons c todo =>
      rw [List.length_cons] at h6 he1 hn
      have hz : (0 : Int) < ((todo.length + 1 : Nat) : Int) := by omega
      have h0 : es[o]? = some (.str c) := by
        have := congrArg (·[0]?) he2
        simpa using this
      simp (maxSteps := 1000000) (disch := omega) only [go_sem, q2, h6, hz, decide_true, bt, h0]
      refine cD_for g.rules.length (fun i σ bx => σ 2 = .loc 2 1 0 0 ∧ σ 7 = .str c ∧ σ 8 = .int .i64 i ∧ bx 2 = ⟨1, 1, 6, 26, [g.d]⟩ ∧ OwnV bx [10, 58] 9 1 (σ 5) ((stp c g.rules (out, todo) i).1.map D.str) ∧ Que bx (σ 6) (stp c g.rules (out, todo) i).2 ∧ (stp c g.rules (out, todo) i).1.length ≤ out.length + i ∧ (stp c g.rules (out, todo) i).2.length ≤ todo.length + i) ?_ ?_ ?_
      · simp (maxSteps := 1000000) (disch := omega) only [go_sem, q2, b2, hgd]
        refine ⟨ov, ⟨t, e, o + 1, es, ht, rfl, bt, by simp [stp] at he1 ⊢; omega, ?_⟩, by simp [stp], by simp [stp]⟩
        rw [← List.drop_drop, he2]
        simp [stp]
      · rintro i σ bx hi ⟨q2, q7, q8, b2, ov, qv, n1, n2⟩
        obtain ⟨x, hx⟩ := get_lt hi
        rw [take_push hx]
        generalize stp c g.rules (out, todo) i = p at ov qv n1 n2 ⊢
        obtain ⟨o1, t1⟩ := p
        dsimp only at ov qv n1 n2
        have hlt : (i : Int) < (g.rules.length : Int) := by omega
        have hi1 : IntKind.i64.wrap ((i : Int) + 1) = ((i + 1 : Nat) : Int) := wrap_succ (by omega)
        have hxd : x.d = .agg [.str x.cat, .int .i64 x.no, .sl 3 (x.parts.map Part.d), .sl 2 (x.gives.map Give.d), .int .i64 x.cost] := rfl
        have hxs := hg.rules x (List.mem_of_getElem? hx)
        simp (maxSteps := 1000000) (disch := omega) only [go_sem, q2, q8, hlt, decide_true, b2, hgd, hx, hxd]
        refine call_pure (chainR_c x hxs.plen) (by simp [go_sem]) ?_
        cases he : edge x with
        | none =>
          rw [push_no (fun a d h => by rw [he] at h; cases h)]
          simp (maxSteps := 1000000) (disch := omega) only [go_sem, Option.isSome_none, q2, q7, q8, hi1, b2, hgd]
          exact ⟨ov.of fun q hq => by simp at hq; exact (upd_ne (by omega)).trans (upd_ne (by omega)), qv.of fun q hq => (upd_ne (by omega)).trans (upd_ne (by omega)), by omega, by omega⟩
        | some pr =>
          obtain ⟨q, hq, rfl⟩ := edge_one he
          by_cases hc : x.cat = c
          · subst hc
            simp (maxSteps := 1000000) (disch := omega) only [go_sem, Option.isSome_some, decide_true, q2, q7, q8, hq, List.map_cons, List.map_nil, Part.d]
            generalize hB : upd (upd bx 9 _) 9 _ = B
            have k : ∀ r, r ≠ 9 → B r = bx r := fun r hr => by rw [← hB]; exact (upd_ne hr).trans (upd_ne hr)
            have k9 : B 9 = ⟨(bx 9).ep + 1, 1, 5, 40, [.agg [.str x.cat, .int .i64 x.no, .sl 3 [q.d], .sl 2 (x.gives.map Give.d), .int .i64 x.cost]]⟩ := by rw [← hB, upd_same, hq]; rfl
            clear hB
            replace b2 := (k 2 (by omega)).trans b2
            replace ov := ov.of (bx' := B) fun q hq => k q (by simp at hq; omega)
            replace qv := qv.of (bx' := B) fun q hq => k q (by omega)
            obtain ⟨r, hr1, hr2⟩ := ov.out (pureL_strs _)
            refine call_read ((indexR_c o1 q.cat (by omega)).weak2 hr2 (.refl _)) (by simp [go_sem, hr1]) rfl ?_
            by_cases hd : q.cat ∈ o1
            · have hneg : ¬ idxR o1 q.cat < 0 := by simp [idxR, hd]
              rw [push_no (fun a d h => by rw [he] at h; cases h; exact .inr hd)]
              simp (maxSteps := 1000000) (disch := omega) only [go_sem, hneg, decide_false, q2, q7, q8, hi1, b2, hgd]
              exact ⟨ov, qv, by omega, by omega⟩
            · have hneg : idxR o1 q.cat < 0 := by simp [idxR, hd]
              rw [push_yes he hd]
              simp (maxSteps := 1000000) (disch := omega) only [go_sem, hneg, decide_true, q2, q7, q8, k9, Part.d]
              refine append_own ov (by simp) (by simp [go_sem]) (by simp; omega) (by omega) (by omega) (by simp) fun e' B' g1 g2 => ?_
              obtain ⟨t, e, o, es, ht, h6, bt, he1, he2⟩ := qv
              have hes : (es.drop o).length = t1.length := by rw [he2, List.length_map]
              rw [List.length_drop] at hes
              have bt' := (g2 t (by omega) (by simp; omega)).trans bt
              have c9 := (g2 9 (by omega) (by simp)).trans k9
              have c2 := (g2 2 (by omega) (by simp)).trans b2
              have hQ : appQ 0 66 9 1 16 B' (.osl t e 1 o t1.length) [.str q.cat] = some ((.osl 66 ((B' 66).ep + 1) 1 0 (t1.length + 1), upd (upd B' t ⟨e, 0, 1, 9, es⟩) 66 ⟨(B' 66).ep + 1, 1, 1, 9, (es.drop o).take t1.length ++ [.str q.cat]⟩), (.osl 66 ((B' 66).ep + 1) 1 o (t1.length + 1), upd (upd B' t ⟨e, 0, 1, 9, es⟩) 66 ⟨(B' 66).ep + 1, 1, 1, 9, es.take (o + t1.length) ++ [.str q.cat]⟩)) := by
                dsimp only [appQ]
                rw [bt']
                dsimp only
                rw [if_pos ⟨by omega, rfl, rfl, rfl, rfl, rfl, by omega, by simp; omega, by omega, by omega⟩]
                rfl
              simp (maxSteps := 1000000) (disch := omega) only [go_sem, q2, q7, q8, c9, c2, h6, Part.d, hQ, reduceCtorEq, if_false, hi1]
              have hov : ∀ y z, OwnV (upd (upd B' t y) 66 z) [10, 58] 9 1 (.osl 58 e' 1 0 (o1.map D.str ++ [D.str q.cat]).length) ((o1 ++ [q.cat]).map D.str) := fun y z => by
                rw [List.map_append]
                exact OwnV.mk (by simp) ((upd_ne (by omega)).trans ((upd_ne (by omega)).trans g1))
              have hl1 : (o1 ++ [q.cat]).length ≤ out.length + (i + 1) := by simp; omega
              have hl2 : (t1 ++ [q.cat]).length ≤ todo.length + (i + 1) := by simp; omega
              rw [if_neg (by omega)]
              refine ⟨⟨rfl, hov _ _, ⟨66, _, 0, _, .inr rfl, by simp, upd_same _ _ _, by simp; omega, ?_⟩, hl1, hl2⟩, rfl, hov _ _, ⟨66, _, o, _, .inr rfl, by simp, upd_same _ _ _, by simp; omega, ?_⟩, hl1, hl2⟩
              · rw [List.drop_zero, he2, List.take_of_length_le (by simp), List.map_append]; rfl
              · rw [List.take_of_length_le (by omega), List.drop_append_of_le_length (by omega), he2, List.map_append]; rfl
          · rw [push_no (fun a d h => by rw [he] at h; cases h; exact .inl hc)]
            simp (maxSteps := 1000000) (disch := omega) only [go_sem, Option.isSome_some, hc, decide_false, q2, q7, q8, hi1, b2, hgd]
            exact ⟨ov.of fun q hq => by simp at hq; exact (upd_ne (by omega)).trans (upd_ne (by omega)), qv.of fun q hq => (upd_ne (by omega)).trans (upd_ne (by omega)), by omega, by omega⟩
      · rintro σ bx ⟨q2, q7, q8, b2, ov, qv, n1, n2⟩
        have hlt : ¬ (g.rules.length : Int) < (g.rules.length : Int) := by omega
        obtain ⟨m, h1, h2⟩ := hw.step
        have hst : stp c g.rules (out, todo) g.rules.length = (out ++ m, todo ++ m) := by rw [stp, List.take_length]; exact h1
        rw [hst] at ov qv n1 n2
        have hj1 : g.rules.length + 1 - j = g.rules.length + 1 - (j + 1) + 1 := by omega
        rw [hj1, run, h1] at hrun
        simp (maxSteps := 1000000) (disch := omega) only [go_sem, q2, q7, q8, hlt, decide_false, b2, hgd]
        exact ⟨_, _, ov, qv, h2, by simp; omega, hrun⟩
  · rintro σ bx ⟨q2, b2, out, todo, ov, qv, hw, hn, hrun⟩
    have hol : out.length ≤ g.rules.length := Nat.le_trans (nodup_le hw.nodup hw.sub) (targets_len _)
    obtain rfl : todo = [] := List.eq_nil_of_length_eq_zero (by omega)
    obtain ⟨t, e, o, es, ht, h6, bt, he1, he2⟩ := qv
    have hz : ¬ (0 : Int) < ((([] : List Str).length : Nat) : Int) := by simp
    simp (maxSteps := 1000000) (disch := omega) only [go_sem, h6, hz, decide_false]
    obtain ⟨r, hr1, hr2⟩ := ov.out (pureL_strs _)
    have : out = reachL g.rules s := by rw [← hrun]; unfold run; rfl
    exact ⟨r, hr1, by rw [← this]; exact hr2⟩
theorem reach_ok : ReachOk := fun g s hg hr hs => (fnB_calls mixed (reach_d g s hg hr) rfl (by kernel_rfl) rfl).to (fun _ _ h => h) (fun d' bx' ⟨r, h1, h2⟩ => ⟨r, h1, h2⟩)
end Go.V.Ty
