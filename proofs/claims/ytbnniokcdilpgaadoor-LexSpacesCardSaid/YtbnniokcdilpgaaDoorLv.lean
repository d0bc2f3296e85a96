/-
  Lex: the statement LexPlaces on data.
-/
import Derived.Test.YtbnniokcdilpgaaDoorLu
namespace Go.V.Lx
open Go.Proofs Go.RowKit
set_option linter.unusedSimpArgs false
set_option linter.unusedVariables false
set_option maxRecDepth 20000

def nextC (b : Bool) (c : UInt8) (r : List UInt8) : Bool := noLf c && (b || (c == 47 && r.head? == some 47))
theorem gap_step {b e : Bool} {c : UInt8} {r : List UInt8} (h : gapC b (c :: r) = some e) : (nextC b c r = true ∨ isSp c.toNat = true) ∧ gapC (nextC b c r) r = some e := by
  rw [gapC] at h
  unfold nextC
  split at h
  · cases h
  · rename_i hc
    refine ⟨?_, h⟩
    cases hb : (noLf c && (b || (c == 47 && r.head? == some 47))) with
    | true => exact .inl rfl
    | false =>
      rw [hb] at hc
      cases hs : isSp c.toNat with
      | true => exact .inr rfl
      | false => rw [hs] at hc; simp at hc
theorem place_in {s g rest : List UInt8} {p j : Nat} (h : s.drop p = g ++ rest) (hj : j < g.length) : s[p + j]? = g[j]? := by
  have := congrArg (·[j]?) h
  simp only [List.getElem?_drop] at this
  rw [this, List.getElem?_append_left hj]
theorem head_drop {g : List UInt8} {j : Nat} : (g.drop (j + 1)).head? = g[j + 1]? := by rw [List.head?_drop]

set_option maxHeartbeats 8000000 in
theorem lexPlaces_d (s : List UInt8) (hs : s.length ≤ 140737488355328) : fnD Tryd.prog (orac Tryd.prog) [] Tryd.f6 [.str s] (.bool true) := by
  refine fn_intro _ [.tmp 2] _ rfl rfl rfl (by kernel_rfl) ?_
  simp (maxSteps := 1000000) (disch := omega) only [go_sem, reduceIte, Nat.reduceEqDiff, Nat.reduceAdd, Nat.reduceLeDiff, Nat.reduceLT, Nat.reduceSub, Int.reduceLT, Int.reduceLE, Int.reduceEq, Int.reduceToNat, Option.map_some, List.length_map, List.getElem?_map, Int.toNat_natCast]
  refine call_pure sane_c rfl ?_
  simp (maxSteps := 1000000) (disch := omega) only [go_sem, reduceIte, Nat.reduceEqDiff, Nat.reduceAdd, Nat.reduceLeDiff, Nat.reduceLT, Nat.reduceSub, Int.reduceLT, Int.reduceLE, Int.reduceEq, Int.reduceToNat, Option.map_some, List.length_map, List.getElem?_map, Int.toNat_natCast]
  refine condD_dec (fun h1 => ?_) (fun h1 => ?_)
  · simp (maxSteps := 1000000) (disch := omega) only [go_sem, reduceIte, Nat.reduceEqDiff, Nat.reduceAdd, Nat.reduceLeDiff, Nat.reduceLT, Nat.reduceSub, Int.reduceLT, Int.reduceLE, Int.reduceEq, Int.reduceToNat, Option.map_some, List.length_map, List.getElem?_map, Int.toNat_natCast]
    exact .refl _
  have hs6 : s.length ≤ 65536 := by omega
  rcases lex_ok0 s hs6 with ⟨_, l, hlx, h2⟩ | ⟨_, k, hle, h2⟩
  case inr =>
    have hc := lex_s hs6 h2
    simp only [List.map_nil] at hc
    have k1 : ((0 : Nat) : Int) = 0 := rfl
    simp (maxSteps := 1000000) (disch := omega) only [go_sem, reduceIte, Nat.reduceEqDiff, Nat.reduceAdd, Nat.reduceLeDiff, Nat.reduceLT, Nat.reduceSub, Int.reduceLT, Int.reduceLE, Int.reduceEq, Int.reduceToNat, Option.map_some, List.length_map, List.getElem?_map, Int.toNat_natCast]
    refine call_pure hc (by simp [go_sem]) ?_
    simp (maxSteps := 1000000) (disch := omega) only [go_sem, reduceIte, Nat.reduceEqDiff, Nat.reduceAdd, Nat.reduceLeDiff, Nat.reduceLT, Nat.reduceSub, Int.reduceLT, Int.reduceLE, Int.reduceEq, Int.reduceToNat, Option.map_some, List.length_map, List.getElem?_map, Int.toNat_natCast, List.length_nil, k1]
    exact .refl _
  have hc := lex_s hs6 h2
  have hgaps := hlx.gaps false (.inl rfl)
  obtain ⟨hval, _, hll⟩ := hlx.facts
  simp (maxSteps := 1000000) (disch := omega) only [go_sem, reduceIte, Nat.reduceEqDiff, Nat.reduceAdd, Nat.reduceLeDiff, Nat.reduceLT, Nat.reduceSub, Int.reduceLT, Int.reduceLE, Int.reduceEq, Int.reduceToNat, Option.map_some, List.length_map, List.getElem?_map, Int.toNat_natCast]
  refine call_pure hc (by simp [go_sem, pureL_toks]) ?_
  simp (maxSteps := 1000000) (disch := omega) only [go_sem, reduceIte, Nat.reduceEqDiff, Nat.reduceAdd, Nat.reduceLeDiff, Nat.reduceLT, Nat.reduceSub, Int.reduceLT, Int.reduceLE, Int.reduceEq, Int.reduceToNat, Option.map_some, List.length_map, List.getElem?_map, Int.toNat_natCast]
  clear hc h2 hlx
  refine cD_loop (fun σ bx => ∃ k p : Nat, k ≤ l.length ∧ p ≤ s.length ∧ σ 0 = .str s ∧ σ 3 = .sl 4 (l.map Tok.d) ∧ σ 6 = .int .i64 p ∧ σ 7 = .int .i64 k ∧ Gaps false (s.drop p) p (l.drop k)) (fun σ _ => l.length - intN (σ 7))
    ⟨0, 0, Nat.zero_le _, Nat.zero_le _, by simp [go_sem, argsF], by simp [go_sem], by simp [go_sem], by simp [go_sem], hgaps⟩ ?_
  rintro σ bx ⟨k, p, hk, hp, h0, h3, h6, h7, hg⟩
  have hkl : (k : Int) ≤ (l.length : Int) := by omega
  have key : ∃ (g rest : List UInt8) (e : Bool), s.drop p = g ++ rest ∧ gapC false g = some e ∧ p + g.length ≤ s.length ∧ (k < l.length → ∃ x, l[k]? = some x ∧ e = false ∧ x.a = ((p + g.length : Nat) : Int) ∧ 0 < (word x).length ∧ validB x = true ∧ p + g.length + (word x).length ≤ s.length ∧ (s.drop (p + g.length)).take (word x).length = word x ∧ Gaps false (s.drop (p + g.length + (word x).length)) (p + g.length + (word x).length) (l.drop (k + 1))) ∧ (k = l.length → p + g.length = s.length) := by
    rcases Nat.lt_or_ge k l.length with hlt | hge
    · obtain ⟨x, hx⟩ := get_lt hlt
      have hd : l.drop k = x :: l.drop (k + 1) := by
        rw [List.drop_eq_getElem_cons hlt]
        congr 1
        exact (List.getElem?_eq_some_iff.1 hx).2
      rw [hd] at hg
      obtain ⟨g, r', e1, e2, e3, e4, e5⟩ := hg
      have hlen := congrArg List.length e1
      rw [List.length_drop, List.length_append, List.length_append] at hlen
      have d1 : s.drop (p + g.length) = word x ++ r' := by rw [← List.drop_drop, e1, List.drop_left]
      have d2 : s.drop (p + g.length + (word x).length) = r' := by rw [← List.drop_drop, d1, List.drop_left]
      refine ⟨g, word x ++ r', false, e1, e4, by omega, fun _ => ⟨x, hx, rfl, e2, e3, List.all_eq_true.1 hval x (List.mem_of_getElem? hx), by omega, by rw [d1, List.take_left], by rw [d2]; exact e5⟩, fun h => by omega⟩
    · have hd : l.drop k = [] := List.drop_eq_nil_of_le hge
      rw [hd] at hg
      obtain ⟨e, he⟩ := Option.isSome_iff_exists.1 hg
      exact ⟨s.drop p, [], e, by rw [List.append_nil], he, by rw [List.length_drop]; omega, fun h => by omega, fun _ => by rw [List.length_drop]; omega⟩
  obtain ⟨g, rest, e, hsg, hge, hq, hin, hout⟩ := key
  have i1 : ¬ ((p + g.length : Nat) : Int) < (p : Int) := by omega
  have i2 : ¬ (s.length : Int) < ((p + g.length : Nat) : Int) := by omega
  have two : (∃ x, l[k]? = some x ∧ (k : Int) < (l.length : Int) ∧ x.a = ((p + g.length : Nat) : Int)) ∨ (¬ (k : Int) < (l.length : Int) ∧ (s.length : Int) = ((p + g.length : Nat) : Int)) := by
    rcases Nat.lt_or_ge k l.length with hlt | hgt
    · obtain ⟨x, hx, _, hxa, _⟩ := hin hlt
      exact .inl ⟨x, hx, by omega, hxa⟩
    · exact .inr ⟨by omega, by have := hout (by omega); omega⟩
  rcases two with ⟨x, hx, hlt, hxa⟩ | ⟨hnl, hse⟩
  have hxd : x.d = .agg [.int .i64 x.k, .str x.t, .int .i64 x.n, .int .i64 x.a] := rfl
  simp (maxSteps := 1000000) (disch := omega) only [go_sem, reduceIte, Nat.reduceEqDiff, Nat.reduceAdd, Nat.reduceLeDiff, Nat.reduceLT, Nat.reduceSub, Int.reduceLT, Int.reduceLE, Int.reduceEq, Int.reduceToNat, Option.map_some, List.length_map, List.getElem?_map, Int.toNat_natCast, h0, h3, h6, h7, hkl, hlt, hx, hxd, hxa, i1, i2]
  rotate_left
  have i3 : ¬ ((p + g.length : Nat) : Int) < ((p + g.length : Nat) : Int) := by omega
  simp (maxSteps := 1000000) (disch := omega) only [go_sem, reduceIte, Nat.reduceEqDiff, Nat.reduceAdd, Nat.reduceLeDiff, Nat.reduceLT, Nat.reduceSub, Int.reduceLT, Int.reduceLE, Int.reduceEq, Int.reduceToNat, Option.map_some, List.length_map, List.getElem?_map, Int.toNat_natCast, h0, h3, h6, h7, hkl, hnl, hse, i1, i2, i3]
  rotate_left
  all_goals
    refine cD_for g.length (fun j σ' bx' => ∃ b, σ' 0 = .str s ∧ σ' 3 = .sl 4 (l.map Tok.d) ∧ σ' 6 = .int .i64 ((p + j : Nat) : Int) ∧ σ' 7 = .int .i64 k ∧ σ' 8 = .int .i64 ((p + g.length : Nat) : Int) ∧ σ' 9 = .bool b ∧ gapC b (g.drop j) = some e)
      ⟨false, by simp [go_sem, h0], by simp [go_sem, h3], by simp [go_sem, h6], by simp [go_sem, h7], by simp [go_sem], by simp [go_sem], hge⟩ ?_ ?_
    · rintro j σ' bx' hj ⟨b, g0, g3, g6, g7, g8, g9, hgp⟩
      obtain ⟨c, hcj⟩ := get_lt hj
      have hsj := place_in hsg hj
      rw [hcj] at hsj
      rw [drop_at hcj] at hgp
      obtain ⟨hor, hgn⟩ := gap_step hgp
      have j1 : ((p + j : Nat) : Int) < ((p + g.length : Nat) : Int) := by omega
      have hw : IntKind.i64.wrap (((p + j : Nat) : Int) + 1) = ((p + j + 1 : Nat) : Int) := wrap_succ (by omega)
      simp (maxSteps := 1000000) (disch := omega) only [go_sem, reduceIte, Nat.reduceEqDiff, Nat.reduceAdd, Nat.reduceLeDiff, Nat.reduceLT, Nat.reduceSub, Int.reduceLT, Int.reduceLE, Int.reduceEq, Int.reduceToNat, Option.map_some, List.length_map, List.getElem?_map, Int.toNat_natCast, g0, g6, g8]
      refine condD_yes j1 ?_
      simp only [cD_skip, thenQ_normal]
      rw [cD_seq, cD_block]
      obtain ⟨b', hb'⟩ : ∃ b', b' = nextC b c (g.drop (j + 1)) := ⟨_, rfl⟩
      rw [← hb'] at hor hgn
      refine cD_cut (fun σ2 bx2 => σ2 0 = .str s ∧ σ2 3 = .sl 4 (l.map Tok.d) ∧ σ2 6 = .int .i64 ((p + j : Nat) : Int) ∧ σ2 7 = .int .i64 k ∧ σ2 8 = .int .i64 ((p + g.length : Nat) : Int) ∧ σ2 9 = .bool b') ?_ ?_
      · rw [nextC, head_drop, noLf_eq] at hb'
        by_cases c10 : (c.toNat : Int) = 10
        · have hb' : b' = false := by rw [hb']; simp [c10]
          subst hb'
          simp (maxSteps := 1000000) (disch := omega) only [go_sem, reduceIte, Nat.reduceEqDiff, Nat.reduceAdd, Nat.reduceLeDiff, Nat.reduceLT, Nat.reduceSub, Int.reduceLT, Int.reduceLE, Int.reduceEq, Int.reduceToNat, Option.map_some, List.length_map, List.getElem?_map, Int.toNat_natCast, g0, g3, g6, g7, g8, g9, hsj, c10]
        · cases b with
          | true =>
            have hb' : b' = true := by rw [hb']; simp [c10]
            subst hb'
            simp (maxSteps := 1000000) (disch := omega) only [go_sem, reduceIte, Nat.reduceEqDiff, Nat.reduceAdd, Nat.reduceLeDiff, Nat.reduceLT, Nat.reduceSub, Int.reduceLT, Int.reduceLE, Int.reduceEq, Int.reduceToNat, Option.map_some, List.length_map, List.getElem?_map, Int.toNat_natCast, g0, g3, g6, g7, g8, g9, hsj, c10]
          | false =>
            by_cases c47 : (c.toNat : Int) = 47
            · have hc : (c == 47) = true := by rw [byte_beq]; simp; omega
              by_cases hj2 : j + 1 < g.length
              · obtain ⟨d, hdj⟩ := get_lt hj2
                have hsj2 := place_in hsg hj2
                rw [hdj, ← Nat.add_assoc] at hsj2
                have j2 : ((p + j + 1 : Nat) : Int) < ((p + g.length : Nat) : Int) := by omega
                by_cases d47 : (d.toNat : Int) = 47
                · have hd : (d == 47) = true := by rw [byte_beq]; simp; omega
                  have hb' : b' = true := by
                    have hd : d = 47 := by simpa using hd
                    rw [hb', hdj, hd]; simp [c10, hc]
                  subst hb'
                  simp (maxSteps := 1000000) (disch := omega) only [go_sem, reduceIte, Nat.reduceEqDiff, Nat.reduceAdd, Nat.reduceLeDiff, Nat.reduceLT, Nat.reduceSub, Int.reduceLT, Int.reduceLE, Int.reduceEq, Int.reduceToNat, Option.map_some, List.length_map, List.getElem?_map, Int.toNat_natCast, g0, g3, g6, g7, g8, g9, hsj, c10, c47, hw, j2, hsj2, d47]
                · have hb' : b' = false := by
                    have hd : d ≠ 47 := fun e => d47 (by rw [e]; rfl)
                    rw [hb', hdj]; simp [hd]
                  subst hb'
                  simp (maxSteps := 1000000) (disch := omega) only [go_sem, reduceIte, Nat.reduceEqDiff, Nat.reduceAdd, Nat.reduceLeDiff, Nat.reduceLT, Nat.reduceSub, Int.reduceLT, Int.reduceLE, Int.reduceEq, Int.reduceToNat, Option.map_some, List.length_map, List.getElem?_map, Int.toNat_natCast, g0, g3, g6, g7, g8, g9, hsj, c10, c47, hw, j2, hsj2, d47]
              · have j2 : ¬ ((p + j + 1 : Nat) : Int) < ((p + g.length : Nat) : Int) := by omega
                have hb' : b' = false := by
                  rw [hb', List.getElem?_eq_none (by omega)]; simp
                subst hb'
                simp (maxSteps := 1000000) (disch := omega) only [go_sem, reduceIte, Nat.reduceEqDiff, Nat.reduceAdd, Nat.reduceLeDiff, Nat.reduceLT, Nat.reduceSub, Int.reduceLT, Int.reduceLE, Int.reduceEq, Int.reduceToNat, Option.map_some, List.length_map, List.getElem?_map, Int.toNat_natCast, g0, g3, g6, g7, g8, g9, hsj, c10, c47, hw, j2]
            · have hc : (c == 47) = false := by rw [byte_beq]; simp; omega
              have hb' : b' = false := by rw [hb', hc]; simp
              subst hb'
              simp (maxSteps := 1000000) (disch := omega) only [go_sem, reduceIte, Nat.reduceEqDiff, Nat.reduceAdd, Nat.reduceLeDiff, Nat.reduceLT, Nat.reduceSub, Int.reduceLT, Int.reduceLE, Int.reduceEq, Int.reduceToNat, Option.map_some, List.length_map, List.getElem?_map, Int.toNat_natCast, g0, g3, g6, g7, g8, g9, hsj, c10, c47]
      · clear g0 g3 g6 g7 g8 g9 hb'
        rintro σ2 bx2 ⟨g0, g3, g6, g7, g8, g9⟩
        have hpj : p + (j + 1) = p + j + 1 := by omega
        cases b' with
        | true =>
          simp (maxSteps := 1000000) (disch := omega) only [go_sem, reduceIte, Nat.reduceEqDiff, Nat.reduceAdd, Nat.reduceLeDiff, Nat.reduceLT, Nat.reduceSub, Int.reduceLT, Int.reduceLE, Int.reduceEq, Int.reduceToNat, Option.map_some, List.length_map, List.getElem?_map, Int.toNat_natCast, g0, g3, g6, g7, g8, g9, hsj, hw, hpj]
          exact ⟨true, rfl, hgn⟩
        | false =>
          have hsp : isSp c.toNat = true := by
            rcases hor with h | h
            · cases h
            · exact h
          have hcs := space_rc c
          rw [hsp] at hcs
          simp (maxSteps := 1000000) (disch := omega) only [go_sem, reduceIte, Nat.reduceEqDiff, Nat.reduceAdd, Nat.reduceLeDiff, Nat.reduceLT, Nat.reduceSub, Int.reduceLT, Int.reduceLE, Int.reduceEq, Int.reduceToNat, Option.map_some, List.length_map, List.getElem?_map, Int.toNat_natCast, g0, g3, g6, g7, g8, g9, hsj, hw, hpj]
          refine call_pure hcs (by simp [go_sem]) ?_
          simp (maxSteps := 1000000) (disch := omega) only [go_sem, reduceIte, Nat.reduceEqDiff, Nat.reduceAdd, Nat.reduceLeDiff, Nat.reduceLT, Nat.reduceSub, Int.reduceLT, Int.reduceLE, Int.reduceEq, Int.reduceToNat, Option.map_some, List.length_map, List.getElem?_map, Int.toNat_natCast, g0, g3, g6, g7, g8, g9, hsj, hw, hpj]
          exact ⟨false, rfl, hgn⟩
    · rintro σ' bx' ⟨b, g0, g3, g6, g7, g8, g9, hgp⟩
      rw [List.drop_length] at hgp
      have hbe : b = e := by injection hgp
      subst hbe
      have j1 : ¬ ((p + g.length : Nat) : Int) < ((p + g.length : Nat) : Int) := by omega
      rcases Nat.lt_or_ge k l.length with hkl2 | hkl2
      · obtain ⟨x, hx, hb, hxa, hw0, hxv, hwl, hwt, hgn⟩ := hin hkl2
        subst hb
        have hne : ¬ (k : Int) = (l.length : Int) := by omega
        have hxd : x.d = .agg [.int .i64 x.k, .str x.t, .int .i64 x.n, .int .i64 x.a] := rfl
        have hspl := spelled_c x hxv
        rw [hxd] at hspl
        simp (maxSteps := 1000000) (disch := omega) only [go_sem, reduceIte, Nat.reduceEqDiff, Nat.reduceAdd, Nat.reduceLeDiff, Nat.reduceLT, Nat.reduceSub, Int.reduceLT, Int.reduceLE, Int.reduceEq, Int.reduceToNat, Option.map_some, List.length_map, List.getElem?_map, Int.toNat_natCast, g0, g3, g6, g7, g8, g9, j1, hne, hx, hxd]
        refine call_pure hspl (by simp [go_sem]) ?_
        have w0 : ¬ ((word x).length : Int) = 0 := by omega
        have w1 : IntKind.i64.wrap (((p + g.length : Nat) : Int) + ((word x).length : Int)) = ((p + g.length + (word x).length : Nat) : Int) := by rw [wrap_i64 (by omega) (by omega)]; omega
        have w2 : ¬ (s.length : Int) < ((p + g.length + (word x).length : Nat) : Int) := by omega
        have w3 : ((p + g.length + (word x).length : Nat) : Int) ≤ (s.length : Int) := by omega
        have w4 : ((p + g.length : Nat) : Int) ≤ ((p + g.length + (word x).length : Nat) : Int) := by omega
        have w5 : (s.drop (p + g.length)).take (p + g.length + (word x).length - (p + g.length)) = word x := by rw [Nat.add_sub_cancel_left]; exact hwt
        have w6 : IntKind.i64.wrap ((k : Int) + 1) = ((k + 1 : Nat) : Int) := wrap_succ (by omega)
        simp (maxSteps := 1000000) (disch := omega) only [go_sem, reduceIte, Nat.reduceEqDiff, Nat.reduceAdd, Nat.reduceLeDiff, Nat.reduceLT, Nat.reduceSub, Int.reduceLT, Int.reduceLE, Int.reduceEq, Int.reduceToNat, Option.map_some, List.length_map, List.getElem?_map, Int.toNat_natCast, g0, g3, g6, g7, g8, g9, w0, w1, w2, w3, w4, w5, w6]
        exact ⟨⟨k + 1, _, by omega, hwl, rfl, rfl, hgn⟩, by rw [h7]; simp only [intN]; omega⟩
      · have hkk : k = l.length := by omega
        subst hkk
        simp (maxSteps := 1000000) (disch := omega) only [go_sem, reduceIte, Nat.reduceEqDiff, Nat.reduceAdd, Nat.reduceLeDiff, Nat.reduceLT, Nat.reduceSub, Int.reduceLT, Int.reduceLE, Int.reduceEq, Int.reduceToNat, Option.map_some, List.length_map, List.getElem?_map, Int.toNat_natCast, g0, g3, g6, g7, g8, g9, j1]
        exact .refl _
theorem lexPlaces_c (s : List UInt8) (hs : s.length ≤ 140737488355328) : CallsTo Tryd.prog 6 [.str s] (.bool true) := fn_calls mixed (lexPlaces_d s hs) rfl (by kernel_rfl) rfl
end Go.V.Lx
