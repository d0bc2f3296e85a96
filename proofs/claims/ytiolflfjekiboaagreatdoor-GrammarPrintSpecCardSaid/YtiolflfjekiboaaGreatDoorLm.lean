/-
  Lex: the reference's tokens of a source, on data.
-/
import Derived.Test.YtiolflfjekiboaaGreatDoorLI
namespace Go.V.Lx
open Go.Proofs Go.RowKit
set_option linter.unusedSimpArgs false
set_option linter.unusedVariables false
set_option maxRecDepth 100000

def slotsR : List Nat := [13, 86, 119, 136]
theorem runs_to (P : UInt8 → Bool) {s : List UInt8} {i j : Nat} (hij : i ≤ j) (hj : j ≤ s.length) (h1 : ((s.drop i).take (j - i)).all P = true) (h2 : ∀ x, s[j]? = some x → P x = false) : (s.drop i).takeWhile P = (s.drop i).take (j - i) ∧ ((s.drop i).takeWhile P).length = j - i := by
  have h := takeWhile_of P (s.drop i) (j - i) h1 (fun x hx => h2 x (by rw [List.getElem?_drop] at hx; rw [show i + (j - i) = j by omega] at hx; exact hx))
  refine ⟨h, ?_⟩
  rw [h, List.length_take, List.length_drop]
  omega
theorem runs_on (P : UInt8 → Bool) {s : List UInt8} {i j : Nat} {x : UInt8} (hij : i ≤ j) (hx : s[j]? = some x) (h1 : ((s.drop i).take (j - i)).all P = true) (h2 : P x = true) : ((s.drop i).take (j + 1 - i)).all P = true := by
  rw [show j + 1 - i = (j - i) + 1 by omega]
  exact take_all P (x := x) (by rw [List.getElem?_drop, show i + (j - i) = j by omega]; exact hx) h1 h2
theorem drop_at {s : List UInt8} {i : Nat} {c : UInt8} (hx : s[i]? = some c) : s.drop i = c :: s.drop (i + 1) := by
  have hi := (List.getElem?_eq_some_iff.1 hx).1
  rw [List.drop_eq_getElem_cons hi]
  congr 1
  exact (List.getElem?_eq_some_iff.1 hx).2
theorem noLf_eq (x : UInt8) : noLf x = !decide ((x.toNat : Int) = 10) := by
  unfold noLf
  rw [byte_beq]; rfl
theorem com_at {s : List UInt8} {i : Nat} {c d : UInt8} (hx : s[i]? = some c) (hd : s[i + 1]? = some d) (hc : (c.toNat : Int) = 47) (hd47 : (d.toNat : Int) = 47) : isCom (s.drop i) = true := by
  have h1 : c = 47 := UInt8.toNat_inj.1 (by simp; omega)
  have h2 : d = 47 := UInt8.toNat_inj.1 (by simp; omega)
  rw [drop_at hx, drop_at hd, h1, h2]
  exact com_mk _
theorem com_not {s : List UInt8} {i : Nat} {c : UInt8} (hx : s[i]? = some c) (h : ¬ ((c.toNat : Int) = 47 ∧ ∃ d, s[i + 1]? = some d ∧ (d.toNat : Int) = 47)) : isCom (s.drop i) = false := by
  cases hc : isCom (s.drop i) with
  | false => rfl
  | true =>
    obtain ⟨t, ht⟩ := com_inv hc
    exfalso
    rw [drop_at hx] at ht
    injection ht with h1 h2
    refine h ⟨by rw [h1]; rfl, 47, ?_, by rfl⟩
    have : (s.drop (i + 1))[0]? = some 47 := by rw [h2]; rfl
    rw [List.getElem?_drop] at this
    simpa using this

set_option maxHeartbeats 4000000 in
theorem lexR_d (s : List UInt8) (hs : s.length ≤ 140737488355328) : fnD Tryz.prog (orac Tryz.prog) [(1000013, [])] Tryz.f23 [.str s] (lexD (lexL s)) := by
  refine fn_intro _ [.tmp 2, .tmp 3, .tmp 4] _ rfl rfl rfl (by kernel_rfl) ?_
  simp (maxSteps := 1000000) (disch := omega) only [go_sem, reduceIte, Nat.reduceEqDiff, Nat.reduceAdd, Nat.reduceLeDiff, Nat.reduceLT, Nat.reduceSub, Int.reduceLT, Int.reduceLE, Int.reduceEq, Int.reduceToNat, Option.map_some, List.length_map, List.getElem?_map, Int.toNat_natCast]
  refine condD_dec (fun h1 => ?_) (fun h1 => ?_)
  · simp (maxSteps := 1000000) (disch := omega) only [go_sem, reduceIte, Nat.reduceEqDiff, Nat.reduceAdd, Nat.reduceLeDiff, Nat.reduceLT, Nat.reduceSub, Int.reduceLT, Int.reduceLE, Int.reduceEq, Int.reduceToNat, Option.map_some, List.length_map, List.getElem?_map, Int.toNat_natCast]
    have : lexL s = ([], 0, 2) := by unfold lexL; rw [if_pos (by omega)]
    rw [this]
    exact lexD_nil _ _
  have hs : s.length ≤ 65536 := by omega
  have hlex : lexL s = lexGo s (s.length - 0) 0 [] := by unfold lexL; rw [if_neg (by omega)]; rfl
  simp (maxSteps := 1000000) (disch := omega) only [go_sem, reduceIte, Nat.reduceEqDiff, Nat.reduceAdd, Nat.reduceLeDiff, Nat.reduceLT, Nat.reduceSub, Int.reduceLT, Int.reduceLE, Int.reduceEq, Int.reduceToNat, Option.map_some, List.length_map, List.getElem?_map, Int.toNat_natCast]
  refine cD_loop (fun σ bx => ∃ (i : Nat) (xs : List Tok) (l : D), i ≤ s.length ∧ xs.length ≤ i ∧ σ 0 = .str s ∧ σ 5 = l ∧ σ 6 = .int .i64 i ∧ OwnV bx slotsR 42 4 l (xs.map Tok.d) ∧ lexL s = lexGo s (s.length - i) i xs) (fun σ _ => s.length - intN (σ 6))
    ⟨0, [], _, Nat.zero_le _, Nat.zero_le _, by simp [go_sem, argsF], rfl, by simp [go_sem], ?_, hlex⟩ ?_
  · refine .inr ⟨13, 1, by simp [slotsR], ?_, ?_⟩
    · simp [go_sem]
    · simp [upd]; rfl
  rintro σ bx ⟨i, xs, l, hi, hxl, h0, h5, h6, hv, hgo⟩
  by_cases hlt : i < s.length
  · obtain ⟨c, hx⟩ := get_lt hlt
    have hlt' : (i : Int) < (s.length : Int) := by omega
    have hws : IntKind.i64.wrap ((i : Int) + 1) = ((i + 1 : Nat) : Int) := wrap_succ (by omega)
    have hdr := drop_at hx
    simp (maxSteps := 1000000) (disch := omega) only [go_sem, reduceIte, Nat.reduceEqDiff, Nat.reduceAdd, Nat.reduceLeDiff, Nat.reduceLT, Nat.reduceSub, Int.reduceLT, Int.reduceLE, Int.reduceEq, Int.reduceToNat, Option.map_some, List.length_map, List.getElem?_map, Int.toNat_natCast, h0, h5, h6, hx, hlt']
    refine call_pure (space_rc c) (by simp [go_sem]) ?_
    simp (maxSteps := 1000000) (disch := omega) only [go_sem, reduceIte, Nat.reduceEqDiff, Nat.reduceAdd, Nat.reduceLeDiff, Nat.reduceLT, Nat.reduceSub, Int.reduceLT, Int.reduceLE, Int.reduceEq, Int.reduceToNat, Option.map_some, List.length_map, List.getElem?_map, Int.toNat_natCast, h0, h5, h6, hx, hlt']
    refine condD_split (fun hsp => ?_) (fun hsp => ?_)
    · have hc1 : cls c = 1 := by have := cls_sp c; rw [hsp] at this; simpa using this
      rw [lexGo_space xs hx hc1] at hgo
      simp (maxSteps := 1000000) (disch := omega) only [go_sem, reduceIte, Nat.reduceEqDiff, Nat.reduceAdd, Nat.reduceLeDiff, Nat.reduceLT, Nat.reduceSub, Int.reduceLT, Int.reduceLE, Int.reduceEq, Int.reduceToNat, Option.map_some, List.length_map, List.getElem?_map, Int.toNat_natCast, h0, h5, h6, hx, hlt', hws]
      exact ⟨⟨i + 1, xs, l, by omega, by omega, rfl, rfl, hv, hgo⟩, by simp only [intN]; omega⟩
    have hc1 : cls c ≠ 1 := by have := cls_sp c; rw [hsp] at this; simpa using this
    by_cases hcom : (c.toNat : Int) = 47 ∧ ∃ d, s[i + 1]? = some d ∧ (d.toNat : Int) = 47
    · obtain ⟨h47, d, hd, hd47⟩ := hcom
      have hcom := com_at hx hd h47 hd47
      have hl1 := (List.getElem?_eq_some_iff.1 hd).1
      have hl1' : ((i + 1 : Nat) : Int) < (s.length : Int) := by omega
      have hc4 : cls c = 4 := by
        have : c = 47 := UInt8.toNat_inj.1 (by simp; omega)
        rw [this]; exact cls_slash
      have hst : st (s.drop i) = some (((s.drop i).takeWhile noLf).length, []) := by
        have := st4 (r := s.drop (i + 1)) hc4
        rw [← hdr, hcom, if_pos rfl] at this
        exact this
      simp (maxSteps := 1000000) (disch := omega) only [go_sem, reduceIte, Nat.reduceEqDiff, Nat.reduceAdd, Nat.reduceLeDiff, Nat.reduceLT, Nat.reduceSub, Int.reduceLT, Int.reduceLE, Int.reduceEq, Int.reduceToNat, Option.map_some, List.length_map, List.getElem?_map, Int.toNat_natCast, h0, h5, h6, hx, hlt', hws, h47, hd, hd47, hl1']
      refine cD_loop (fun σ' bx' => ∃ j : Nat, i ≤ j ∧ j ≤ s.length ∧ σ' 0 = .str s ∧ σ' 5 = l ∧ σ' 6 = .int .i64 j ∧ bx' = bx ∧ ((s.drop i).take (j - i)).all noLf = true) (fun σ' _ => s.length - intN (σ' 6))
        ⟨i, Nat.le_refl _, hi, by simp [go_sem, h0], by simp [go_sem, h5], by simp [go_sem, h6], rfl, by simp⟩ ?_
      rintro σ' bx' ⟨j, hij, hj, g0, g5, g6, rfl, hall⟩
      have fin : (∀ x, s[j]? = some x → noLf x = false) → (∃ (i' : Nat) (xs' : List Tok) (l' : D), i' ≤ s.length ∧ xs'.length ≤ i' ∧ l = l' ∧ D.int IntKind.i64 (j : Int) = .int .i64 (i' : Int) ∧ OwnV bx' slotsR 42 4 l' (xs'.map Tok.d) ∧ lexL s = lexGo s (s.length - i') i' xs') ∧ s.length - intN (D.int IntKind.i64 (j : Int)) < s.length - intN (σ 6) := fun hn => by
        obtain ⟨_, g⟩ := runs_to noLf hij hj hall hn
        rw [g] at hst
        have hon := st_on hst
        rw [lexGo_at hst, show i + (j - i) = j by omega, List.map_nil, List.append_nil] at hgo
        exact ⟨⟨j, xs, l, hj, by omega, rfl, rfl, hv, hgo⟩, by rw [h6]; simp only [intN]; omega⟩
      by_cases hjl : j < s.length
      · obtain ⟨y, hy⟩ := get_lt hjl
        have hjl' : (j : Int) < (s.length : Int) := by omega
        have hwj : IntKind.i64.wrap ((j : Int) + 1) = ((j + 1 : Nat) : Int) := wrap_succ (by omega)
        have hlf := noLf_eq y
        by_cases hy10 : (y.toNat : Int) = 10
        · simp (maxSteps := 1000000) (disch := omega) only [go_sem, reduceIte, Nat.reduceEqDiff, Nat.reduceAdd, Nat.reduceLeDiff, Nat.reduceLT, Nat.reduceSub, Int.reduceLT, Int.reduceLE, Int.reduceEq, Int.reduceToNat, Option.map_some, List.length_map, List.getElem?_map, Int.toNat_natCast, g0, g5, g6, hjl', hy, hy10]
          exact fin fun x hx' => by rw [hy] at hx'; injection hx' with hx'; subst hx'; rw [hlf]; simp [hy10]
        · simp (maxSteps := 1000000) (disch := omega) only [go_sem, reduceIte, Nat.reduceEqDiff, Nat.reduceAdd, Nat.reduceLeDiff, Nat.reduceLT, Nat.reduceSub, Int.reduceLT, Int.reduceLE, Int.reduceEq, Int.reduceToNat, Option.map_some, List.length_map, List.getElem?_map, Int.toNat_natCast, g0, g5, g6, hjl', hy, hy10, hwj]
          exact ⟨⟨j + 1, by omega, by omega, rfl, runs_on noLf hij hy hall (by rw [hlf]; simp [hy10])⟩, by simp only [intN]; omega⟩
      · have hjl' : ¬ (j : Int) < (s.length : Int) := by omega
        simp (maxSteps := 1000000) (disch := omega) only [go_sem, reduceIte, Nat.reduceEqDiff, Nat.reduceAdd, Nat.reduceLeDiff, Nat.reduceLT, Nat.reduceSub, Int.reduceLT, Int.reduceLE, Int.reduceEq, Int.reduceToNat, Option.map_some, List.length_map, List.getElem?_map, Int.toNat_natCast, g0, g5, g6, hjl']
        exact fin fun x hx' => absurd (List.getElem?_eq_some_iff.1 hx').1 hjl
    have hncom := com_not hx hcom
    have three : ((c.toNat : Int) ≠ 47) ∨ ((c.toNat : Int) = 47 ∧ ¬ ((i + 1 : Nat) : Int) < (s.length : Int)) ∨ ((c.toNat : Int) = 47 ∧ ((i + 1 : Nat) : Int) < (s.length : Int) ∧ ∃ d, s[i + 1]? = some d ∧ ¬ (d.toNat : Int) = 47) := by
      by_cases h47 : (c.toNat : Int) = 47
      · by_cases hl1 : ((i + 1 : Nat) : Int) < (s.length : Int)
        · obtain ⟨d, hd⟩ := get_lt (l := s) (k := i + 1) (by omega)
          exact .inr (.inr ⟨h47, hl1, d, hd, fun h => hcom ⟨h47, d, hd, h⟩⟩)
        · exact .inr (.inl ⟨h47, hl1⟩)
      · exact .inl h47
    simp only [cD_skip, thenQ_normal]
    refine cD_cut (fun σ' bx' => bx' = bx ∧ σ' 0 = .str s ∧ σ' 5 = l ∧ σ' 6 = .int .i64 i ∧ σ' 7 = .int .i64 i) ?_ ?_
    · rcases three with h47 | ⟨h47, hl1⟩ | ⟨h47, hl1, d, hd, hd47⟩
      · simp (maxSteps := 1000000) (disch := omega) only [go_sem, reduceIte, Nat.reduceEqDiff, Nat.reduceAdd, Nat.reduceLeDiff, Nat.reduceLT, Nat.reduceSub, Int.reduceLT, Int.reduceLE, Int.reduceEq, Int.reduceToNat, Option.map_some, List.length_map, List.getElem?_map, Int.toNat_natCast, h0, h5, h6, hx, hws, h47]
      · simp (maxSteps := 1000000) (disch := omega) only [go_sem, reduceIte, Nat.reduceEqDiff, Nat.reduceAdd, Nat.reduceLeDiff, Nat.reduceLT, Nat.reduceSub, Int.reduceLT, Int.reduceLE, Int.reduceEq, Int.reduceToNat, Option.map_some, List.length_map, List.getElem?_map, Int.toNat_natCast, h0, h5, h6, hx, hws, h47, hl1]
      · simp (maxSteps := 1000000) (disch := omega) only [go_sem, reduceIte, Nat.reduceEqDiff, Nat.reduceAdd, Nat.reduceLeDiff, Nat.reduceLT, Nat.reduceSub, Int.reduceLT, Int.reduceLE, Int.reduceEq, Int.reduceToNat, Option.map_some, List.length_map, List.getElem?_map, Int.toNat_natCast, h0, h5, h6, hx, hws, h47, hl1, hd, hd47]
    have h6o := h6
    clear three h0 h5 h6
    rintro σ' bx' ⟨rfl, h0, h5, h6, h7⟩
    have hbad : st (s.drop i) = none → lexL s = ([], (i : Int), 30) := fun h => by rw [hgo, lexGo_bad hlt h]
    have hon : ∀ {n : Nat} {x : Tok} (hst : st (s.drop i) = some (n, [x])), lexL s = lexGo s (s.length - (i + n)) (i + n) (xs ++ [atT i x]) := fun hst => by rw [hgo, lexGo_at hst]; rfl
    simp (maxSteps := 1000000) (disch := omega) only [go_sem, reduceIte, Nat.reduceEqDiff, Nat.reduceAdd, Nat.reduceLeDiff, Nat.reduceLT, Nat.reduceSub, Int.reduceLT, Int.reduceLE, Int.reduceEq, Int.reduceToNat, Option.map_some, List.length_map, List.getElem?_map, Int.toNat_natCast, h0, h5, h6, h7, hx]
    refine call_pure (letter_c c) (by simp [go_sem]) ?_
    simp (maxSteps := 1000000) (disch := omega) only [go_sem, reduceIte, Nat.reduceEqDiff, Nat.reduceAdd, Nat.reduceLeDiff, Nat.reduceLT, Nat.reduceSub, Int.reduceLT, Int.reduceLE, Int.reduceEq, Int.reduceToNat, Option.map_some, List.length_map, List.getElem?_map, Int.toNat_natCast, h0, h5, h6, h7, hx]
    refine condD_split (fun hlet => ?_) (fun hlet => ?_)
    · have hc2 := cls_of_lt hlet
      have hst : st (s.drop i) = tokStep ⟨1, (s.drop i).takeWhile partB, 0, 0⟩ 0 ((s.drop i).takeWhile partB).length := by
        have := st2 (r := s.drop (i + 1)) hc2
        rwa [← hdr] at this
      simp (maxSteps := 1000000) (disch := omega) only [go_sem, reduceIte, Nat.reduceEqDiff, Nat.reduceAdd, Nat.reduceLeDiff, Nat.reduceLT, Nat.reduceSub, Int.reduceLT, Int.reduceLE, Int.reduceEq, Int.reduceToNat, Option.map_some, List.length_map, List.getElem?_map, Int.toNat_natCast, h0, h5, h6, h7, hx]
      refine cD_loop (fun σ2 bx2 => ∃ j : Nat, i ≤ j ∧ j ≤ s.length ∧ σ2 0 = .str s ∧ σ2 5 = l ∧ σ2 6 = .int .i64 j ∧ σ2 7 = .int .i64 i ∧ bx2 = bx' ∧ ((s.drop i).take (j - i)).all partB = true) (fun σ2 _ => s.length - intN (σ2 6))
        ⟨i, Nat.le_refl _, hi, by simp [go_sem, h0], by simp [go_sem, h5], by simp [go_sem, h6], by simp [go_sem, h7], rfl, by simp⟩ ?_
      rintro σ2 bx2 ⟨j, hij, hj, g0, g5, g6, g7, rfl, hall⟩
      have three : (¬ j < s.length) ∨ (∃ y, s[j]? = some y ∧ partB y = false) ∨ (∃ y, s[j]? = some y ∧ partB y = true) := by
        by_cases hjl : j < s.length
        · obtain ⟨y, hy⟩ := get_lt hjl
          cases hp : partB y with
          | false => exact .inr (.inl ⟨y, hy, hp⟩)
          | true => exact .inr (.inr ⟨y, hy, hp⟩)
        · exact .inl hjl
      have fin : (∀ x, s[j]? = some x → partB x = false) → ((s.drop i).takeWhile partB = (s.drop i).take (j - i) ∧ ((s.drop i).takeWhile partB).length = j - i) := runs_to partB hij hj hall
      have hjs : (i : Int) ≤ (j : Int) := by omega
      have hjs2 : (j : Int) ≤ (s.length : Int) := by omega
      rcases three with hjl | ⟨y, hy, hp⟩ | ⟨y, hy, hp⟩
      case inr.inr =>
        have hjl := (List.getElem?_eq_some_iff.1 hy).1
        have hjl' : (j : Int) < (s.length : Int) := by omega
        have hwj : IntKind.i64.wrap ((j : Int) + 1) = ((j + 1 : Nat) : Int) := wrap_succ (by omega)
        have hcy := part_c y
        rw [← partB_eq, hp] at hcy
        simp (maxSteps := 1000000) (disch := omega) only [go_sem, reduceIte, Nat.reduceEqDiff, Nat.reduceAdd, Nat.reduceLeDiff, Nat.reduceLT, Nat.reduceSub, Int.reduceLT, Int.reduceLE, Int.reduceEq, Int.reduceToNat, Option.map_some, List.length_map, List.getElem?_map, Int.toNat_natCast, g0, g5, g6, g7, hjl', hy]
        refine call_pure hcy (by simp [go_sem]) ?_
        simp (maxSteps := 1000000) (disch := omega) only [go_sem, reduceIte, Nat.reduceEqDiff, Nat.reduceAdd, Nat.reduceLeDiff, Nat.reduceLT, Nat.reduceSub, Int.reduceLT, Int.reduceLE, Int.reduceEq, Int.reduceToNat, Option.map_some, List.length_map, List.getElem?_map, Int.toNat_natCast, g0, g5, g6, g7, hjl', hy, hwj]
        exact ⟨⟨j + 1, by omega, by omega, rfl, runs_on partB hij hy hall hp⟩, by simp only [intN]; omega⟩
      case inl =>
        have hjl' : ¬ (j : Int) < (s.length : Int) := by omega
        obtain ⟨f1, f2⟩ := fin fun x hx' => absurd (List.getElem?_eq_some_iff.1 hx').1 hjl
        generalize htw : (s.drop i).takeWhile partB = t at f1 f2 hst
        have f1 := f1.symm
        simp (maxSteps := 1000000) (disch := omega) only [go_sem, reduceIte, Nat.reduceEqDiff, Nat.reduceAdd, Nat.reduceLeDiff, Nat.reduceLT, Nat.reduceSub, Int.reduceLT, Int.reduceLE, Int.reduceEq, Int.reduceToNat, Option.map_some, List.length_map, List.getElem?_map, Int.toNat_natCast, g0, g5, g6, g7, hjl', hjs, hjs2, f1]
        refine call_pure (nameR_c t (by omega)) (by simp [go_sem]) ?_
        simp (maxSteps := 1000000) (disch := omega) only [go_sem, reduceIte, Nat.reduceEqDiff, Nat.reduceAdd, Nat.reduceLeDiff, Nat.reduceLT, Nat.reduceSub, Int.reduceLT, Int.reduceLE, Int.reduceEq, Int.reduceToNat, Option.map_some, List.length_map, List.getElem?_map, Int.toNat_natCast, g0, g5, g6, g7, hjs, hjs2, f1]
        refine condD_split (fun hnm => ?_) (fun hnm => ?_)
        · have hva : validB ⟨1, t, 0, 0⟩ = true := by simp [validB, hnm]
          unfold tokStep at hst
          rw [if_pos hva] at hst
          have ho := hon hst
          have hp := (st_on hst).1
          rw [show i + (0 + t.length) = j by omega] at ho
          simp (maxSteps := 1000000) (disch := omega) only [go_sem, reduceIte, Nat.reduceEqDiff, Nat.reduceAdd, Nat.reduceLeDiff, Nat.reduceLT, Nat.reduceSub, Int.reduceLT, Int.reduceLE, Int.reduceEq, Int.reduceToNat, Option.map_some, List.length_map, List.getElem?_map, Int.toNat_natCast, g0, g5, g6, g7, hjs, hjs2, f1]
          refine append_own (hv.of fun q hq => rfl) (by simp) (by simp [go_sem]) (by simp; omega) (by omega) (by omega) (fun q hq => Nat.zero_le _) (fun e' bx3 k1 k2 => ?_)
          simp (maxSteps := 1000000) (disch := omega) only [go_sem, reduceIte, Nat.reduceEqDiff, Nat.reduceAdd, Nat.reduceLeDiff, Nat.reduceLT, Nat.reduceSub, Int.reduceLT, Int.reduceLE, Int.reduceEq, Int.reduceToNat, Option.map_some, List.length_map, List.getElem?_map, Int.toNat_natCast, g0, g5, g6, g7, hjs, hjs2, f1]
          exact ⟨⟨j, xs ++ [atT i ⟨1, t, 0, 0⟩], _, hj, by rw [List.length_append, List.length_cons, List.length_nil]; omega, rfl, rfl, .inr ⟨86, e', by simp [slotsR], by simp, by simpa [Tok.d, atT] using k1⟩, ho⟩, by rw [h6o]; simp only [intN]; omega⟩
        · have hva : validB ⟨1, t, 0, 0⟩ = false := by simp [validB, hnm]
          unfold tokStep at hst
          rw [hva] at hst
          simp (maxSteps := 1000000) (disch := omega) only [go_sem, reduceIte, Nat.reduceEqDiff, Nat.reduceAdd, Nat.reduceLeDiff, Nat.reduceLT, Nat.reduceSub, Int.reduceLT, Int.reduceLE, Int.reduceEq, Int.reduceToNat, Option.map_some, List.length_map, List.getElem?_map, Int.toNat_natCast, g0, g5, g6, g7]
          rw [hbad hst]
          exact lexD_nil _ _
      case inr.inl =>
        have hjl := (List.getElem?_eq_some_iff.1 hy).1
        have hjl' : (j : Int) < (s.length : Int) := by omega
        have hcy := part_c y
        rw [← partB_eq, hp] at hcy
        obtain ⟨f1, f2⟩ := fin fun x hx' => by rw [hy] at hx'; injection hx' with hx'; subst hx'; exact hp
        generalize htw : (s.drop i).takeWhile partB = t at f1 f2 hst
        have f1 := f1.symm
        simp (maxSteps := 1000000) (disch := omega) only [go_sem, reduceIte, Nat.reduceEqDiff, Nat.reduceAdd, Nat.reduceLeDiff, Nat.reduceLT, Nat.reduceSub, Int.reduceLT, Int.reduceLE, Int.reduceEq, Int.reduceToNat, Option.map_some, List.length_map, List.getElem?_map, Int.toNat_natCast, g0, g5, g6, g7, hjl', hjs, hjs2, hy]
        refine call_pure hcy (by simp [go_sem]) ?_
        simp (maxSteps := 1000000) (disch := omega) only [go_sem, reduceIte, Nat.reduceEqDiff, Nat.reduceAdd, Nat.reduceLeDiff, Nat.reduceLT, Nat.reduceSub, Int.reduceLT, Int.reduceLE, Int.reduceEq, Int.reduceToNat, Option.map_some, List.length_map, List.getElem?_map, Int.toNat_natCast, g0, g5, g6, g7, hjl', hjs, hjs2, hy, f1]
        refine call_pure (nameR_c t (by omega)) (by simp [go_sem]) ?_
        simp (maxSteps := 1000000) (disch := omega) only [go_sem, reduceIte, Nat.reduceEqDiff, Nat.reduceAdd, Nat.reduceLeDiff, Nat.reduceLT, Nat.reduceSub, Int.reduceLT, Int.reduceLE, Int.reduceEq, Int.reduceToNat, Option.map_some, List.length_map, List.getElem?_map, Int.toNat_natCast, g0, g5, g6, g7, hjs, hjs2, f1]
        refine condD_split (fun hnm => ?_) (fun hnm => ?_)
        · have hva : validB ⟨1, t, 0, 0⟩ = true := by simp [validB, hnm]
          unfold tokStep at hst
          rw [if_pos hva] at hst
          have ho := hon hst
          have hp := (st_on hst).1
          rw [show i + (0 + t.length) = j by omega] at ho
          simp (maxSteps := 1000000) (disch := omega) only [go_sem, reduceIte, Nat.reduceEqDiff, Nat.reduceAdd, Nat.reduceLeDiff, Nat.reduceLT, Nat.reduceSub, Int.reduceLT, Int.reduceLE, Int.reduceEq, Int.reduceToNat, Option.map_some, List.length_map, List.getElem?_map, Int.toNat_natCast, g0, g5, g6, g7, hjs, hjs2, f1]
          refine append_own (hv.of fun q hq => rfl) (by simp) (by simp [go_sem]) (by simp; omega) (by omega) (by omega) (fun q hq => Nat.zero_le _) (fun e' bx3 k1 k2 => ?_)
          simp (maxSteps := 1000000) (disch := omega) only [go_sem, reduceIte, Nat.reduceEqDiff, Nat.reduceAdd, Nat.reduceLeDiff, Nat.reduceLT, Nat.reduceSub, Int.reduceLT, Int.reduceLE, Int.reduceEq, Int.reduceToNat, Option.map_some, List.length_map, List.getElem?_map, Int.toNat_natCast, g0, g5, g6, g7, hjs, hjs2, f1]
          exact ⟨⟨j, xs ++ [atT i ⟨1, t, 0, 0⟩], _, hj, by rw [List.length_append, List.length_cons, List.length_nil]; omega, rfl, rfl, .inr ⟨86, e', by simp [slotsR], by simp, by simpa [Tok.d, atT] using k1⟩, ho⟩, by rw [h6o]; simp only [intN]; omega⟩
        · have hva : validB ⟨1, t, 0, 0⟩ = false := by simp [validB, hnm]
          unfold tokStep at hst
          rw [hva] at hst
          simp (maxSteps := 1000000) (disch := omega) only [go_sem, reduceIte, Nat.reduceEqDiff, Nat.reduceAdd, Nat.reduceLeDiff, Nat.reduceLT, Nat.reduceSub, Int.reduceLT, Int.reduceLE, Int.reduceEq, Int.reduceToNat, Option.map_some, List.length_map, List.getElem?_map, Int.toNat_natCast, g0, g5, g6, g7]
          rw [hbad hst]
          exact lexD_nil _ _
    simp (maxSteps := 1000000) (disch := omega) only [go_sem, reduceIte, Nat.reduceEqDiff, Nat.reduceAdd, Nat.reduceLeDiff, Nat.reduceLT, Nat.reduceSub, Int.reduceLT, Int.reduceLE, Int.reduceEq, Int.reduceToNat, Option.map_some, List.length_map, List.getElem?_map, Int.toNat_natCast, h0, h5, h6, h7, hx]
    refine call_pure (figure_c c) (by simp [go_sem]) ?_
    simp (maxSteps := 1000000) (disch := omega) only [go_sem, reduceIte, Nat.reduceEqDiff, Nat.reduceAdd, Nat.reduceLeDiff, Nat.reduceLT, Nat.reduceSub, Int.reduceLT, Int.reduceLE, Int.reduceEq, Int.reduceToNat, Option.map_some, List.length_map, List.getElem?_map, Int.toNat_natCast, h0, h5, h6, h7, hx]
    refine condD_split (fun hfig => ?_) (fun hfig => ?_)
    · have hc3 := cls_of_fg hfig
      have hst : st (s.drop i) = numTok ((s.drop i).takeWhile figB) := by
        have := st3 (r := s.drop (i + 1)) hc3
        rwa [← hdr] at this
      simp (maxSteps := 1000000) (disch := omega) only [go_sem, reduceIte, Nat.reduceEqDiff, Nat.reduceAdd, Nat.reduceLeDiff, Nat.reduceLT, Nat.reduceSub, Int.reduceLT, Int.reduceLE, Int.reduceEq, Int.reduceToNat, Option.map_some, List.length_map, List.getElem?_map, Int.toNat_natCast, h0, h5, h6, h7, hx]
      refine cD_loop (fun σ2 bx2 => ∃ j : Nat, i ≤ j ∧ j ≤ s.length ∧ σ2 0 = .str s ∧ σ2 5 = l ∧ σ2 6 = .int .i64 j ∧ σ2 7 = .int .i64 i ∧ bx2 = bx' ∧ ((s.drop i).take (j - i)).all figB = true) (fun σ2 _ => s.length - intN (σ2 6))
        ⟨i, Nat.le_refl _, hi, by simp [go_sem, h0], by simp [go_sem, h5], by simp [go_sem, h6], by simp [go_sem, h7], rfl, by simp⟩ ?_
      rintro σ2 bx2 ⟨j, hij, hj, g0, g5, g6, g7, rfl, hall⟩
      have three : (¬ j < s.length) ∨ (∃ y, s[j]? = some y ∧ figB y = false) ∨ (∃ y, s[j]? = some y ∧ figB y = true) := by
        by_cases hjl : j < s.length
        · obtain ⟨y, hy⟩ := get_lt hjl
          cases hp : figB y with
          | false => exact .inr (.inl ⟨y, hy, hp⟩)
          | true => exact .inr (.inr ⟨y, hy, hp⟩)
        · exact .inl hjl
      have fin : (∀ x, s[j]? = some x → figB x = false) → ((s.drop i).takeWhile figB = (s.drop i).take (j - i) ∧ ((s.drop i).takeWhile figB).length = j - i) := runs_to figB hij hj hall
      have hjs : (i : Int) ≤ (j : Int) := by omega
      have hjs2 : (j : Int) ≤ (s.length : Int) := by omega
      rcases three with hjl | ⟨y, hy, hp⟩ | ⟨y, hy, hp⟩
      case inr.inr =>
        have hjl := (List.getElem?_eq_some_iff.1 hy).1
        have hjl' : (j : Int) < (s.length : Int) := by omega
        have hwj : IntKind.i64.wrap ((j : Int) + 1) = ((j + 1 : Nat) : Int) := wrap_succ (by omega)
        have hcy := figure_c y
        rw [← figB_eq, hp] at hcy
        simp (maxSteps := 1000000) (disch := omega) only [go_sem, reduceIte, Nat.reduceEqDiff, Nat.reduceAdd, Nat.reduceLeDiff, Nat.reduceLT, Nat.reduceSub, Int.reduceLT, Int.reduceLE, Int.reduceEq, Int.reduceToNat, Option.map_some, List.length_map, List.getElem?_map, Int.toNat_natCast, g0, g5, g6, g7, hjl', hy]
        refine call_pure hcy (by simp [go_sem]) ?_
        simp (maxSteps := 1000000) (disch := omega) only [go_sem, reduceIte, Nat.reduceEqDiff, Nat.reduceAdd, Nat.reduceLeDiff, Nat.reduceLT, Nat.reduceSub, Int.reduceLT, Int.reduceLE, Int.reduceEq, Int.reduceToNat, Option.map_some, List.length_map, List.getElem?_map, Int.toNat_natCast, g0, g5, g6, g7, hjl', hy, hwj]
        exact ⟨⟨j + 1, by omega, by omega, rfl, runs_on figB hij hy hall hp⟩, by simp only [intN]; omega⟩
      case inl =>
        have hjl' : ¬ (j : Int) < (s.length : Int) := by omega
        obtain ⟨f1, f2⟩ := fin fun x hx' => absurd (List.getElem?_eq_some_iff.1 hx').1 hjl
        generalize htw : (s.drop i).takeWhile figB = t at f1 f2 hst
        have f1 := f1.symm
        simp (maxSteps := 1000000) (disch := omega) only [go_sem, reduceIte, Nat.reduceEqDiff, Nat.reduceAdd, Nat.reduceLeDiff, Nat.reduceLT, Nat.reduceSub, Int.reduceLT, Int.reduceLE, Int.reduceEq, Int.reduceToNat, Option.map_some, List.length_map, List.getElem?_map, Int.toNat_natCast, g0, g5, g6, g7, hjl', hjs, hjs2, f1]
        have hf : figs t = true := by
          unfold figs
          rw [List.all_eq_true, ← htw]
          intro x hx
          have := List.all_eq_true.1 (List.all_takeWhile (l := s.drop i) (p := figB)) x hx
          rwa [figB_eq] at this
        have hne : t ≠ [] := by
          rw [← htw, hdr, List.takeWhile_cons, if_pos (by simp [figB, hc3])]
          simp
        have hnc := number_rc t hne hf (by omega)
        unfold numTok at hst
        by_cases hd : dv 0 t ≤ 1099511627776
        · have e : numD t = .tup [.int .i64 (dv 0 t : Int), .bool (lead t)] := by unfold numD; rw [if_pos hd]
          rw [e] at hnc
          refine call_pure hnc (by simp [go_sem]) ?_
          simp (maxSteps := 1000000) (disch := omega) only [go_sem, reduceIte, Nat.reduceEqDiff, Nat.reduceAdd, Nat.reduceLeDiff, Nat.reduceLT, Nat.reduceSub, Int.reduceLT, Int.reduceLE, Int.reduceEq, Int.reduceToNat, Option.map_some, List.length_map, List.getElem?_map, Int.toNat_natCast, g0, g5, g6, g7, hjs, hjs2, f1]
          refine condD_split (fun hld => ?_) (fun hld => ?_)
          · rw [if_pos ⟨hd, hld⟩] at hst
            have ho := hon hst
            have hp := (st_on hst).1
            rw [show i + t.length = j by omega] at ho
            simp (maxSteps := 1000000) (disch := omega) only [go_sem, reduceIte, Nat.reduceEqDiff, Nat.reduceAdd, Nat.reduceLeDiff, Nat.reduceLT, Nat.reduceSub, Int.reduceLT, Int.reduceLE, Int.reduceEq, Int.reduceToNat, Option.map_some, List.length_map, List.getElem?_map, Int.toNat_natCast, g0, g5, g6, g7, hjs, hjs2, f1]
            refine append_own (hv.of fun q hq => rfl) (by simp) (by simp [go_sem]) (by simp; omega) (by omega) (by omega) (fun q hq => Nat.zero_le _) (fun e' bx3 k1 k2 => ?_)
            simp (maxSteps := 1000000) (disch := omega) only [go_sem, reduceIte, Nat.reduceEqDiff, Nat.reduceAdd, Nat.reduceLeDiff, Nat.reduceLT, Nat.reduceSub, Int.reduceLT, Int.reduceLE, Int.reduceEq, Int.reduceToNat, Option.map_some, List.length_map, List.getElem?_map, Int.toNat_natCast, g0, g5, g6, g7, hjs, hjs2, f1]
            exact ⟨⟨j, xs ++ [atT i ⟨2, [], dv 0 t, 0⟩], _, hj, by rw [List.length_append, List.length_cons, List.length_nil]; omega, rfl, rfl, .inr ⟨119, e', by simp [slotsR], by simp, by simpa [Tok.d, atT] using k1⟩, ho⟩, by rw [h6o]; simp only [intN]; omega⟩
          · rw [if_neg (by rw [hld]; simp)] at hst
            simp (maxSteps := 1000000) (disch := omega) only [go_sem, reduceIte, Nat.reduceEqDiff, Nat.reduceAdd, Nat.reduceLeDiff, Nat.reduceLT, Nat.reduceSub, Int.reduceLT, Int.reduceLE, Int.reduceEq, Int.reduceToNat, Option.map_some, List.length_map, List.getElem?_map, Int.toNat_natCast, g0, g5, g6, g7]
            rw [hbad hst]
            exact lexD_nil _ _
        · have e : numD t = .tup [.int .i64 0, .bool false] := by unfold numD; rw [if_neg hd]
          rw [e] at hnc
          refine call_pure hnc (by simp [go_sem]) ?_
          rw [if_neg (fun h => hd h.1)] at hst
          simp (maxSteps := 1000000) (disch := omega) only [go_sem, reduceIte, Nat.reduceEqDiff, Nat.reduceAdd, Nat.reduceLeDiff, Nat.reduceLT, Nat.reduceSub, Int.reduceLT, Int.reduceLE, Int.reduceEq, Int.reduceToNat, Option.map_some, List.length_map, List.getElem?_map, Int.toNat_natCast, g0, g5, g6, g7, hjs, hjs2, f1]
          rw [hbad hst]
          exact lexD_nil _ _
      case inr.inl =>
        have hjl := (List.getElem?_eq_some_iff.1 hy).1
        have hjl' : (j : Int) < (s.length : Int) := by omega
        have hcy := figure_c y
        rw [← figB_eq, hp] at hcy
        obtain ⟨f1, f2⟩ := fin fun x hx' => by rw [hy] at hx'; injection hx' with hx'; subst hx'; exact hp
        generalize htw : (s.drop i).takeWhile figB = t at f1 f2 hst
        have f1 := f1.symm
        simp (maxSteps := 1000000) (disch := omega) only [go_sem, reduceIte, Nat.reduceEqDiff, Nat.reduceAdd, Nat.reduceLeDiff, Nat.reduceLT, Nat.reduceSub, Int.reduceLT, Int.reduceLE, Int.reduceEq, Int.reduceToNat, Option.map_some, List.length_map, List.getElem?_map, Int.toNat_natCast, g0, g5, g6, g7, hjl', hjs, hjs2, hy]
        refine call_pure hcy (by simp [go_sem]) ?_
        simp (maxSteps := 1000000) (disch := omega) only [go_sem, reduceIte, Nat.reduceEqDiff, Nat.reduceAdd, Nat.reduceLeDiff, Nat.reduceLT, Nat.reduceSub, Int.reduceLT, Int.reduceLE, Int.reduceEq, Int.reduceToNat, Option.map_some, List.length_map, List.getElem?_map, Int.toNat_natCast, g0, g5, g6, g7, hjl', hjs, hjs2, hy, f1]
        have hf : figs t = true := by
          unfold figs
          rw [List.all_eq_true, ← htw]
          intro x hx
          have := List.all_eq_true.1 (List.all_takeWhile (l := s.drop i) (p := figB)) x hx
          rwa [figB_eq] at this
        have hne : t ≠ [] := by
          rw [← htw, hdr, List.takeWhile_cons, if_pos (by simp [figB, hc3])]
          simp
        have hnc := number_rc t hne hf (by omega)
        unfold numTok at hst
        by_cases hd : dv 0 t ≤ 1099511627776
        · have e : numD t = .tup [.int .i64 (dv 0 t : Int), .bool (lead t)] := by unfold numD; rw [if_pos hd]
          rw [e] at hnc
          refine call_pure hnc (by simp [go_sem]) ?_
          simp (maxSteps := 1000000) (disch := omega) only [go_sem, reduceIte, Nat.reduceEqDiff, Nat.reduceAdd, Nat.reduceLeDiff, Nat.reduceLT, Nat.reduceSub, Int.reduceLT, Int.reduceLE, Int.reduceEq, Int.reduceToNat, Option.map_some, List.length_map, List.getElem?_map, Int.toNat_natCast, g0, g5, g6, g7, hjs, hjs2, f1]
          refine condD_split (fun hld => ?_) (fun hld => ?_)
          · rw [if_pos ⟨hd, hld⟩] at hst
            have ho := hon hst
            have hp := (st_on hst).1
            rw [show i + t.length = j by omega] at ho
            simp (maxSteps := 1000000) (disch := omega) only [go_sem, reduceIte, Nat.reduceEqDiff, Nat.reduceAdd, Nat.reduceLeDiff, Nat.reduceLT, Nat.reduceSub, Int.reduceLT, Int.reduceLE, Int.reduceEq, Int.reduceToNat, Option.map_some, List.length_map, List.getElem?_map, Int.toNat_natCast, g0, g5, g6, g7, hjs, hjs2, f1]
            refine append_own (hv.of fun q hq => rfl) (by simp) (by simp [go_sem]) (by simp; omega) (by omega) (by omega) (fun q hq => Nat.zero_le _) (fun e' bx3 k1 k2 => ?_)
            simp (maxSteps := 1000000) (disch := omega) only [go_sem, reduceIte, Nat.reduceEqDiff, Nat.reduceAdd, Nat.reduceLeDiff, Nat.reduceLT, Nat.reduceSub, Int.reduceLT, Int.reduceLE, Int.reduceEq, Int.reduceToNat, Option.map_some, List.length_map, List.getElem?_map, Int.toNat_natCast, g0, g5, g6, g7, hjs, hjs2, f1]
            exact ⟨⟨j, xs ++ [atT i ⟨2, [], dv 0 t, 0⟩], _, hj, by rw [List.length_append, List.length_cons, List.length_nil]; omega, rfl, rfl, .inr ⟨119, e', by simp [slotsR], by simp, by simpa [Tok.d, atT] using k1⟩, ho⟩, by rw [h6o]; simp only [intN]; omega⟩
          · rw [if_neg (by rw [hld]; simp)] at hst
            simp (maxSteps := 1000000) (disch := omega) only [go_sem, reduceIte, Nat.reduceEqDiff, Nat.reduceAdd, Nat.reduceLeDiff, Nat.reduceLT, Nat.reduceSub, Int.reduceLT, Int.reduceLE, Int.reduceEq, Int.reduceToNat, Option.map_some, List.length_map, List.getElem?_map, Int.toNat_natCast, g0, g5, g6, g7]
            rw [hbad hst]
            exact lexD_nil _ _
        · have e : numD t = .tup [.int .i64 0, .bool false] := by unfold numD; rw [if_neg hd]
          rw [e] at hnc
          refine call_pure hnc (by simp [go_sem]) ?_
          rw [if_neg (fun h => hd h.1)] at hst
          simp (maxSteps := 1000000) (disch := omega) only [go_sem, reduceIte, Nat.reduceEqDiff, Nat.reduceAdd, Nat.reduceLeDiff, Nat.reduceLT, Nat.reduceSub, Int.reduceLT, Int.reduceLE, Int.reduceEq, Int.reduceToNat, Option.map_some, List.length_map, List.getElem?_map, Int.toNat_natCast, g0, g5, g6, g7, hjs, hjs2, f1]
          rw [hbad hst]
          exact lexD_nil _ _
    have hc2 : cls c ≠ 2 := by have := cls_lt c; rw [hlet] at this; simpa using this
    have hc3 : cls c ≠ 3 := by have := cls_fg c; rw [hfig] at this; simpa using this
    simp (maxSteps := 1000000) (disch := omega) only [go_sem, reduceIte, Nat.reduceEqDiff, Nat.reduceAdd, Nat.reduceLeDiff, Nat.reduceLT, Nat.reduceSub, Int.reduceLT, Int.reduceLE, Int.reduceEq, Int.reduceToNat, Option.map_some, List.length_map, List.getElem?_map, Int.toNat_natCast, h0, h5, h6, h7, hx]
    refine call_pure (signR_c c) (by simp [go_sem]) ?_
    simp (maxSteps := 1000000) (disch := omega) only [go_sem, reduceIte, Nat.reduceEqDiff, Nat.reduceAdd, Nat.reduceLeDiff, Nat.reduceLT, Nat.reduceSub, Int.reduceLT, Int.reduceLE, Int.reduceEq, Int.reduceToNat, Option.map_some, List.length_map, List.getElem?_map, Int.toNat_natCast, h0, h5, h6, h7, hx]
    refine condD_split (fun hsg => ?_) (fun hsg => ?_)
    · have hc4 : cls c = 4 := by have := cls_sg c; rw [hsg] at this; simpa using this
      have hst : st (s.drop i) = some (1, [⟨3, [c], 0, 0⟩]) := by
        have := st4 (r := s.drop (i + 1)) hc4
        rw [← hdr, hncom, if_neg (by simp)] at this
        exact this
      have ho := hon hst
      have f1 : (s.drop i).take (i + 1 - i) = [c] := by rw [hdr, show i + 1 - i = 1 by omega]; rfl
      have hjs : (i : Int) ≤ ((i + 1 : Nat) : Int) := by omega
      have hjs2 : ((i + 1 : Nat) : Int) ≤ (s.length : Int) := by omega
      simp (maxSteps := 1000000) (disch := omega) only [go_sem, reduceIte, Nat.reduceEqDiff, Nat.reduceAdd, Nat.reduceLeDiff, Nat.reduceLT, Nat.reduceSub, Int.reduceLT, Int.reduceLE, Int.reduceEq, Int.reduceToNat, Option.map_some, List.length_map, List.getElem?_map, Int.toNat_natCast, h0, h5, h6, h7, hx, hws, hjs, hjs2, f1]
      refine append_own (hv.of fun q hq => rfl) (by simp) (by simp [go_sem]) (by simp; omega) (by omega) (by omega) (fun q hq => Nat.zero_le _) (fun e' bx3 k1 k2 => ?_)
      simp (maxSteps := 1000000) (disch := omega) only [go_sem, reduceIte, Nat.reduceEqDiff, Nat.reduceAdd, Nat.reduceLeDiff, Nat.reduceLT, Nat.reduceSub, Int.reduceLT, Int.reduceLE, Int.reduceEq, Int.reduceToNat, Option.map_some, List.length_map, List.getElem?_map, Int.toNat_natCast, h0, h5, h6, h7, hx, hws, hjs, hjs2, f1]
      exact ⟨⟨i + 1, xs ++ [atT i ⟨3, [c], 0, 0⟩], _, by omega, by rw [List.length_append, List.length_cons, List.length_nil]; omega, rfl, rfl, .inr ⟨136, e', by simp [slotsR], by simp, by simpa [Tok.d, atT] using k1⟩, ho⟩, by rw [h6o]; simp only [intN]; omega⟩
    · have hc4 : cls c ≠ 4 := by have := cls_sg c; rw [hsg] at this; simpa using this
      have hst : st (s.drop i) = none := by rw [hdr]; exact st5 hc1 hc2 hc3 hc4
      simp (maxSteps := 1000000) (disch := omega) only [go_sem, reduceIte, Nat.reduceEqDiff, Nat.reduceAdd, Nat.reduceLeDiff, Nat.reduceLT, Nat.reduceSub, Int.reduceLT, Int.reduceLE, Int.reduceEq, Int.reduceToNat, Option.map_some, List.length_map, List.getElem?_map, Int.toNat_natCast, h0, h5, h6, h7, hx]
      rw [hbad hst]
      exact lexD_nil _ _
  · have hlt' : ¬ (i : Int) < (s.length : Int) := by omega
    have hend : lexL s = (xs, 0, 0) := by rw [hgo, lexGo_end (by omega)]
    simp (maxSteps := 1000000) (disch := omega) only [go_sem, reduceIte, Nat.reduceEqDiff, Nat.reduceAdd, Nat.reduceLeDiff, Nat.reduceLT, Nat.reduceSub, Int.reduceLT, Int.reduceLE, Int.reduceEq, Int.reduceToNat, Option.map_some, List.length_map, List.getElem?_map, Int.toNat_natCast, h0, h5, h6, hlt']
    obtain ⟨r, hr, hw⟩ := hv.out (pureL_toks xs)
    simp (maxSteps := 1000000) (disch := omega) only [go_sem, reduceIte, Nat.reduceEqDiff, Nat.reduceAdd, Nat.reduceLeDiff, Nat.reduceLT, Nat.reduceSub, Int.reduceLT, Int.reduceLE, Int.reduceEq, Int.reduceToNat, Option.map_some, List.length_map, List.getElem?_map, Int.toNat_natCast, hr]
    rw [hend]
    exact lexD_of 0 0 hw
theorem lexR_c (s : List UInt8) (hs : s.length ≤ 140737488355328) : CallsTo Tryz.prog 23 [.str s] (lexD (lexL s)) := fn_calls mixed (lexR_d s hs) rfl (by kernel_rfl) rfl
end Go.V.Lx
