/-
  Lex: the scanner's steps.
-/
import Derived.Test.YtbnniokcdilpgaaDoorLe
import Derived.Lib.AtoiAllCases
namespace Go.V.Lx
open Go.Proofs Go.RowKit
set_option linter.unusedSimpArgs false
set_option linter.unusedVariables false
set_option maxRecDepth 20000

/-- What a step does: the next place and a token; or an error. -/
abbrev Step := Option (Nat × List Tok)
def tokStep (x : Tok) (i n : Nat) : Step := if validB x then some (i + n, [{ x with a := i }]) else none
def nameStep (s : List UInt8) (i : Nat) : Step := tokStep ⟨1, runB [2, 3, 5] s i, 0, 0⟩ i (runB [2, 3, 5] s i).length
def spaceStep (s : List UInt8) (i : Nat) : Step := some (i + (runB [1] s i).length, [])
def numStep (s : List UInt8) (i : Nat) : Step := match Lib.atoiAll (runB [3] s i) with
  | .ok v => if Lib.itoa v = runB [3] s i then tokStep ⟨2, [], v, 0⟩ i (runB [3] s i).length else none
  | _ => none
def signStep (s : List UInt8) (i : Nat) : Step :=
  if Lib.hasPrefix (s.drop i) [47, 47] then some (if 0 ≤ Lib.indexByte (s.drop i) 10 then i + (Lib.indexByte (s.drop i) 10).toNat else s.length, [])
  else tokStep ⟨3, (s.drop i).take 1, 0, 0⟩ i 1
/-- behind a step -/
def StepPost (e : Nat) (s : List UInt8) (xs : List Tok) (bx : Bxs) (r : Step) : D → Bxs → Prop := fun d bx' => ∃ k l, r = some (k, l) ∧ d = .tup [] ∧ Scan bx' e s k (xs ++ l) ∧ Kept bx bx'
def StepPan (i : Nat) (bx : Bxs) (r : Step) : D → Bxs → Prop := fun d bx' => r = none ∧ d = .ifc 42 (.int .i64 i) ∧ Kept bx bx'
theorem run_len (p : List Int) (s : List UInt8) (i : Nat) (h : i ≤ s.length) : i + (runB p s i).length ≤ s.length := by
  have h1 : (runB p s i).length ≤ (s.drop i).length := (List.takeWhile_prefix _).length_le
  rw [List.length_drop] at h1
  omega

variable {e : Nat} {s : List UInt8} {i : Nat} {xs : List Tok} {bx : Bxs}
theorem scan_out {l : D} (hb : bx 15 = ⟨e, 1, 3, 49, [scD s i l]⟩) : ∃ y, outD bx (.loc 15 e 0 0) = some (.cref (scD s i y) 0) := by
  rw [outD_loc, hb, outP_live]
  simp only [List.getElem?_cons_zero, outP1_some]
  split
  · exact ⟨_, rfl⟩
  · exact ⟨l.veilC, by simp [scD, go_sem]⟩
theorem wrong_d (hb : Scan bx e s i xs) : fnB Tryd.prog (orac Tryd.prog) [] Tryd.f24 39 [.loc 15 e 0 0] bx (StepPost e s xs bx none) (StepPan i bx none) := by
  refine fnB_intro _ [] 7 rfl rfl rfl (by kernel_rfl) ?_
  obtain ⟨l, hb, hv⟩ := hb
  simp (maxSteps := 1000000) (disch := omega) only [go_sem, reduceIte, Nat.reduceEqDiff, Nat.reduceAdd, Nat.reduceLeDiff, Nat.reduceLT, Nat.reduceSub, Int.reduceLT, Int.reduceLE, Int.reduceEq, Int.reduceToNat, Option.map_some, List.length_map, List.getElem?_map, Int.toNat_natCast, hb, scD]
  exact ⟨rfl, rfl, .refl _⟩
theorem space_d (hs : s.length ≤ 65536) (hi : i ≤ s.length) (hb : Scan bx e s i xs) : fnB Tryd.prog (orac Tryd.prog) [(0, [(8, 6), (8, 5)])] Tryd.f25 39 [.loc 15 e 0 0] bx (StepPost e s xs bx (spaceStep s i)) (StepPan i bx (spaceStep s i)) := by
  refine fnB_intro _ [] 13 rfl rfl rfl (by kernel_rfl) ?_
  obtain ⟨l, hb, hv⟩ := hb
  obtain ⟨v1, v2, v3⟩ := hv.facts
  obtain ⟨y, hy⟩ := scan_out hb
  have hr := run_len [1] s i hi
  simp (maxSteps := 1000000) (disch := omega) only [go_sem, reduceIte, Nat.reduceEqDiff, Nat.reduceAdd, Nat.reduceLeDiff, Nat.reduceLT, Nat.reduceSub, Int.reduceLT, Int.reduceLE, Int.reduceEq, Int.reduceToNat, Option.map_some, List.length_map, List.getElem?_map, Int.toNat_natCast, hb, scD, v1, v2, v3]
  refine call_read (run_c s i y [1] (by omega) hi (by simp)) (by simp only [outL_cons, outL_nil, outD_sl, hy, consO_some, List.map_cons, List.map_nil]) rfl ?_
  simp (maxSteps := 1000000) (disch := omega) only [go_sem, reduceIte, Nat.reduceEqDiff, Nat.reduceAdd, Nat.reduceLeDiff, Nat.reduceLT, Nat.reduceSub, Int.reduceLT, Int.reduceLE, Int.reduceEq, Int.reduceToNat, Option.map_some, List.length_map, List.getElem?_map, Int.toNat_natCast, hb, scD, v1, v2, v3]
  rw [wrap_i64 (n := (i : Int) + _) (by omega) (by omega)]
  refine ⟨_, _, rfl, rfl, ⟨l, ?_, ?_⟩, fun q h1 h2 => ?_⟩
  · simp [upd, scD]
  · rw [List.append_nil]
    exact hv.of fun q hq => by
      have : q ≠ 15 := by simp [slots] at hq; omega
      simp [upd, this]
  · simp [upd, h2]
theorem name_dd (hs : s.length ≤ 65536) (hxs : xs.length ≤ 65536) (hi : i ≤ s.length) (hb : Scan bx e s i xs) : fnB Tryd.prog (orac Tryd.prog) [] Tryd.f26 39 [.loc 15 e 0 0] bx (StepPost e s xs bx (nameStep s i)) (StepPan i bx (nameStep s i)) := by
  refine fnB_intro _ [] 11 rfl rfl rfl (by kernel_rfl) ?_
  have hb0 := hb
  obtain ⟨l, hb, hv⟩ := hb
  obtain ⟨y, hy⟩ := scan_out hb
  have hr := run_len [2, 3, 5] s i hi
  simp (maxSteps := 1000000) (disch := omega) only [go_sem, reduceIte, Nat.reduceEqDiff, Nat.reduceAdd, Nat.reduceLeDiff, Nat.reduceLT, Nat.reduceSub, Int.reduceLT, Int.reduceLE, Int.reduceEq, Int.reduceToNat, Option.map_some, List.length_map, List.getElem?_map, Int.toNat_natCast, hb, scD]
  refine call_read (run_c s i y [2, 3, 5] (by omega) hi (by simp)) (by simp only [outL_cons, outL_nil, outD_sl, hy, consO_some, List.map_cons, List.map_nil]) rfl ?_
  generalize hrun : runB [2, 3, 5] s i = t at hr ⊢
  simp (maxSteps := 1000000) (disch := omega) only [go_sem, reduceIte, Nat.reduceEqDiff, Nat.reduceAdd, Nat.reduceLeDiff, Nat.reduceLT, Nat.reduceSub, Int.reduceLT, Int.reduceLE, Int.reduceEq, Int.reduceToNat, Option.map_some, List.length_map, List.getElem?_map, Int.toNat_natCast, hb, scD]
  refine call_pan (add_c 50 e (.inl rfl) s t i xs ⟨1, t, 0, 0⟩ bx hs (by omega) (by simp only []; omega) hi hxs hb0) rfl (fun d bx' hp => ?_) (fun d bx' hp => ?_)
  · obtain ⟨h1, rfl, h2, h3⟩ := hp
    simp (maxSteps := 1000000) (disch := omega) only [go_sem, reduceIte, Nat.reduceEqDiff, Nat.reduceAdd, Nat.reduceLeDiff, Nat.reduceLT, Nat.reduceSub, Int.reduceLT, Int.reduceLE, Int.reduceEq, Int.reduceToNat, Option.map_some, List.length_map, List.getElem?_map, Int.toNat_natCast]
    exact ⟨i + t.length, [⟨1, t, 0, i⟩], by simp only [nameStep, tokStep, hrun, h1, if_true], rfl, by simpa using h2, h3⟩
  · obtain ⟨h1, rfl, h3⟩ := hp
    simp (maxSteps := 1000000) (disch := omega) only [go_sem, reduceIte, Nat.reduceEqDiff, Nat.reduceAdd, Nat.reduceLeDiff, Nat.reduceLT, Nat.reduceSub, Int.reduceLT, Int.reduceLE, Int.reduceEq, Int.reduceToNat, Option.map_some, List.length_map, List.getElem?_map, Int.toNat_natCast]
    exact ⟨by simp only [nameStep, tokStep, hrun, h1]; rfl, rfl, h3⟩
theorem num_dd (hs : s.length ≤ 65536) (hxs : xs.length ≤ 65536) (hi : i ≤ s.length) (hb : Scan bx e s i xs) : fnB Tryd.prog (orac Tryd.prog) [] Tryd.f27 39 [.loc 15 e 0 0] bx (StepPost e s xs bx (numStep s i)) (StepPan i bx (numStep s i)) := by
  refine fnB_intro _ [] 31 rfl rfl rfl (by kernel_rfl) ?_
  have hb0 := hb
  obtain ⟨l, hb, hv⟩ := hb
  obtain ⟨y, hy⟩ := scan_out hb
  have hr := run_len [3] s i hi
  simp (maxSteps := 1000000) (disch := omega) only [go_sem, reduceIte, Nat.reduceEqDiff, Nat.reduceAdd, Nat.reduceLeDiff, Nat.reduceLT, Nat.reduceSub, Int.reduceLT, Int.reduceLE, Int.reduceEq, Int.reduceToNat, Option.map_some, List.length_map, List.getElem?_map, Int.toNat_natCast, hb, scD]
  refine call_read (run_c s i y [3] (by omega) hi (by simp)) (by simp only [outL_cons, outL_nil, outD_sl, hy, consO_some, List.map_cons, List.map_nil]) rfl ?_
  have hnum : numStep s i = match Lib.atoiAll (runB [3] s i) with
    | .ok v => if Lib.itoa v = runB [3] s i then tokStep ⟨2, [], v, 0⟩ i (runB [3] s i).length else none
    | _ => none := rfl
  generalize runB [3] s i = t at hr hnum ⊢
  have hat := atoi_c t (by omega)
  unfold atoiD at hat
  simp (maxSteps := 1000000) (disch := omega) only [go_sem, reduceIte, Nat.reduceEqDiff, Nat.reduceAdd, Nat.reduceLeDiff, Nat.reduceLT, Nat.reduceSub, Int.reduceLT, Int.reduceLE, Int.reduceEq, Int.reduceToNat, Option.map_some, List.length_map, List.getElem?_map, Int.toNat_natCast, hb, scD]
  cases hcase : Lib.atoiAll t with
  | ok v =>
    rw [hcase] at hat hnum
    simp only at hat hnum
    have hv1 : -9223372036854775808 ≤ v ∧ v ≤ 9223372036854775807 := Lib.atoiAll_bounds hcase
    refine call_pure hat (by simp [go_sem]) ?_
    simp (maxSteps := 1000000) (disch := omega) only [go_sem, reduceIte, Nat.reduceEqDiff, Nat.reduceAdd, Nat.reduceLeDiff, Nat.reduceLT, Nat.reduceSub, Int.reduceLT, Int.reduceLE, Int.reduceEq, Int.reduceToNat, Option.map_some, List.length_map, List.getElem?_map, Int.toNat_natCast, hb, scD, nilE]
    refine call_pure (itoa_c v hv1.1 hv1.2) (by simp [go_sem]) ?_
    simp (maxSteps := 1000000) (disch := omega) only [go_sem, reduceIte, Nat.reduceEqDiff, Nat.reduceAdd, Nat.reduceLeDiff, Nat.reduceLT, Nat.reduceSub, Int.reduceLT, Int.reduceLE, Int.reduceEq, Int.reduceToNat, Option.map_some, List.length_map, List.getElem?_map, Int.toNat_natCast, hb, scD]
    refine condD_dec (fun h1 => ?_) (fun h1 => ?_)
    · simp (maxSteps := 1000000) (disch := omega) only [go_sem, reduceIte, Nat.reduceEqDiff, Nat.reduceAdd, Nat.reduceLeDiff, Nat.reduceLT, Nat.reduceSub, Int.reduceLT, Int.reduceLE, Int.reduceEq, Int.reduceToNat, Option.map_some, List.length_map, List.getElem?_map, Int.toNat_natCast, hb, scD]
      rw [if_pos h1] at hnum
      refine call_pan (add_c 70 e (.inr (.inl rfl)) s t i xs ⟨2, [], v, 0⟩ bx hs (by omega) (by simp) hi hxs hb0) rfl (fun d bx' hp => ?_) (fun d bx' hp => ?_)
      · obtain ⟨h1, rfl, h2, h3⟩ := hp
        simp (maxSteps := 1000000) (disch := omega) only [go_sem, reduceIte, Nat.reduceEqDiff, Nat.reduceAdd, Nat.reduceLeDiff, Nat.reduceLT, Nat.reduceSub, Int.reduceLT, Int.reduceLE, Int.reduceEq, Int.reduceToNat, Option.map_some, List.length_map, List.getElem?_map, Int.toNat_natCast]
        exact ⟨i + t.length, [⟨2, [], v, i⟩], by rw [hnum]; simp only [tokStep, h1, if_true], rfl, by simpa using h2, h3⟩
      · obtain ⟨h1, rfl, h3⟩ := hp
        simp (maxSteps := 1000000) (disch := omega) only [go_sem, reduceIte, Nat.reduceEqDiff, Nat.reduceAdd, Nat.reduceLeDiff, Nat.reduceLT, Nat.reduceSub, Int.reduceLT, Int.reduceLE, Int.reduceEq, Int.reduceToNat, Option.map_some, List.length_map, List.getElem?_map, Int.toNat_natCast]
        exact ⟨by rw [hnum]; simp only [tokStep, h1]; rfl, rfl, h3⟩
    · simp (maxSteps := 1000000) (disch := omega) only [go_sem, reduceIte, Nat.reduceEqDiff, Nat.reduceAdd, Nat.reduceLeDiff, Nat.reduceLT, Nat.reduceSub, Int.reduceLT, Int.reduceLE, Int.reduceEq, Int.reduceToNat, Option.map_some, List.length_map, List.getElem?_map, Int.toNat_natCast, hb, scD]
      rw [if_neg h1] at hnum
      exact ⟨hnum, rfl, .refl _⟩
  | «syntax» =>
    rw [hcase] at hat hnum
    simp only at hat hnum
    refine call_pure hat (by simp [go_sem]) ?_
    simp (maxSteps := 1000000) (disch := omega) only [go_sem, reduceIte, Nat.reduceEqDiff, Nat.reduceAdd, Nat.reduceLeDiff, Nat.reduceLT, Nat.reduceSub, Int.reduceLT, Int.reduceLE, Int.reduceEq, Int.reduceToNat, Option.map_some, List.length_map, List.getElem?_map, Int.toNat_natCast, hb, scD, nilE]
    exact ⟨hnum, rfl, .refl _⟩
  | range =>
    rw [hcase] at hat hnum
    simp only at hat hnum
    refine call_pure hat (by simp [go_sem]) ?_
    simp (maxSteps := 1000000) (disch := omega) only [go_sem, reduceIte, Nat.reduceEqDiff, Nat.reduceAdd, Nat.reduceLeDiff, Nat.reduceLT, Nat.reduceSub, Int.reduceLT, Int.reduceLE, Int.reduceEq, Int.reduceToNat, Option.map_some, List.length_map, List.getElem?_map, Int.toNat_natCast, hb, scD, nilE]
    exact ⟨hnum, rfl, .refl _⟩
theorem indexByte_le (l : List UInt8) (c : UInt8) : Lib.indexByte l c ≤ l.length := by
  induction l with
  | nil => simp [Lib.indexByte]
  | cons x l ih =>
    simp only [Lib.indexByte, List.length_cons]
    split
    · omega
    · split <;> omega
theorem sign_dd (hs : s.length ≤ 65536) (hxs : xs.length ≤ 65536) (hi : i < s.length) (hb : Scan bx e s i xs) : fnB Tryd.prog (orac Tryd.prog) [] Tryd.f28 39 [.loc 15 e 0 0] bx (StepPost e s xs bx (signStep s i)) (StepPan i bx (signStep s i)) := by
  refine fnB_intro _ [] 61 rfl rfl rfl (by kernel_rfl) ?_
  have hb0 := hb
  obtain ⟨l, hb, hv⟩ := hb
  obtain ⟨v1, v2, v3⟩ := hv.facts
  have ix := Lib.indexByte_ge (s.drop i) 10
  have ix2 : Lib.indexByte (s.drop i) 10 ≤ (s.drop i).length := indexByte_le _ _
  rw [List.length_drop] at ix2
  have keep : ∀ (v : D) (j : Nat), signStep s i = some (j, []) → v = scD s j l → StepPost e s xs bx (signStep s i) (.tup []) (upd bx 15 ⟨e, 1, 3, 49, [v]⟩) := by
    intro v j h1 h2
    refine ⟨j, [], h1, rfl, ⟨l, by simp [upd, h2], ?_⟩, fun q h1 h2 => by simp [upd, h2]⟩
    rw [List.append_nil]
    refine hv.of fun q hq => ?_
    have : q ≠ 15 := by simp [slots] at hq; omega
    simp [upd, this]
  simp (maxSteps := 1000000) (disch := omega) only [go_sem, reduceIte, Nat.reduceEqDiff, Nat.reduceAdd, Nat.reduceLeDiff, Nat.reduceLT, Nat.reduceSub, Int.reduceLT, Int.reduceLE, Int.reduceEq, Int.reduceToNat, Option.map_some, List.length_map, List.getElem?_map, Int.toNat_natCast, hb, scD]
  have e0 : (s.drop i).take (s.length - i) = s.drop i := List.take_of_length_le (by simp)
  rw [e0]
  refine call_pure (hasPrefix_c (s.drop i) [47, 47]) (by simp [go_sem]) ?_
  simp (maxSteps := 1000000) (disch := omega) only [go_sem, reduceIte, Nat.reduceEqDiff, Nat.reduceAdd, Nat.reduceLeDiff, Nat.reduceLT, Nat.reduceSub, Int.reduceLT, Int.reduceLE, Int.reduceEq, Int.reduceToNat, Option.map_some, List.length_map, List.getElem?_map, Int.toNat_natCast, hb, scD]
  refine condD_split (fun hp => ?_) (fun hp => ?_)
  · have hsig : signStep s i = some (if 0 ≤ Lib.indexByte (s.drop i) 10 then i + (Lib.indexByte (s.drop i) 10).toNat else s.length, []) := by
      unfold signStep; rw [if_pos hp]
    simp (maxSteps := 1000000) (disch := omega) only [go_sem, reduceIte, Nat.reduceEqDiff, Nat.reduceAdd, Nat.reduceLeDiff, Nat.reduceLT, Nat.reduceSub, Int.reduceLT, Int.reduceLE, Int.reduceEq, Int.reduceToNat, Option.map_some, List.length_map, List.getElem?_map, Int.toNat_natCast, hb, scD, e0]
    refine call_pure (indexByte_c (s.drop i) 10) (by simp [go_sem]) ?_
    simp (maxSteps := 1000000) (disch := omega) only [go_sem, reduceIte, Nat.reduceEqDiff, Nat.reduceAdd, Nat.reduceLeDiff, Nat.reduceLT, Nat.reduceSub, Int.reduceLT, Int.reduceLE, Int.reduceEq, Int.reduceToNat, Option.map_some, List.length_map, List.getElem?_map, Int.toNat_natCast, hb, scD]
    refine condD_dec (fun h1 => ?_) (fun h1 => ?_)
    · rw [if_pos h1] at hsig
      simp (maxSteps := 1000000) (disch := omega) only [go_sem, reduceIte, Nat.reduceEqDiff, Nat.reduceAdd, Nat.reduceLeDiff, Nat.reduceLT, Nat.reduceSub, Int.reduceLT, Int.reduceLE, Int.reduceEq, Int.reduceToNat, Option.map_some, List.length_map, List.getElem?_map, Int.toNat_natCast, hb, scD, v1, v2, v3]
      rw [wrap_i64 (n := (i : Int) + _) (by omega) (by omega)]
      have e1 : ((i + (Lib.indexByte (s.drop i) 10).toNat : Nat) : Int) = (i : Int) + Lib.indexByte (s.drop i) 10 := by omega
      exact keep _ _ hsig (by simp only [scD]; rw [e1])
    · rw [if_neg h1] at hsig
      simp (maxSteps := 1000000) (disch := omega) only [go_sem, reduceIte, Nat.reduceEqDiff, Nat.reduceAdd, Nat.reduceLeDiff, Nat.reduceLT, Nat.reduceSub, Int.reduceLT, Int.reduceLE, Int.reduceEq, Int.reduceToNat, Option.map_some, List.length_map, List.getElem?_map, Int.toNat_natCast, hb, scD, v1, v2, v3]
      exact keep _ _ hsig rfl
  · simp (maxSteps := 1000000) (disch := omega) only [go_sem, reduceIte, Nat.reduceEqDiff, Nat.reduceAdd, Nat.reduceLeDiff, Nat.reduceLT, Nat.reduceSub, Int.reduceLT, Int.reduceLE, Int.reduceEq, Int.reduceToNat, Option.map_some, List.length_map, List.getElem?_map, Int.toNat_natCast, hb, scD, v1, v2, v3]
    rw [wrap_i64 (n := (i : Int) + 1) (by omega) (by omega)]
    have e1 : ((i : Int) + 1).toNat = i + 1 := by omega
    have e2 : i + 1 - i = 1 := by omega
    have hsig : signStep s i = tokStep ⟨3, (s.drop i).take 1, 0, 0⟩ i 1 := by
      unfold signStep; rw [if_neg (by simp [hp])]
    have hl1 : ((s.drop i).take 1).length = 1 := by rw [List.length_take, List.length_drop]; omega
    simp (maxSteps := 1000000) (disch := omega) only [go_sem, reduceIte, Nat.reduceEqDiff, Nat.reduceAdd, Nat.reduceLeDiff, Nat.reduceLT, Nat.reduceSub, Int.reduceLT, Int.reduceLE, Int.reduceEq, Int.reduceToNat, Option.map_some, List.length_map, List.getElem?_map, Int.toNat_natCast, hb, scD, v1, v2, v3, e1, e2]
    generalize (s.drop i).take 1 = t at hsig hl1 ⊢
    refine call_pan (add_c 100 e (.inr (.inr rfl)) s t i xs ⟨3, t, 0, 0⟩ bx hs (by omega) (by simp only []; omega) (by omega) hxs hb0) rfl (fun d bx' hp => ?_) (fun d bx' hp => ?_)
    · obtain ⟨h1, rfl, h2, h3⟩ := hp
      simp (maxSteps := 1000000) (disch := omega) only [go_sem, reduceIte, Nat.reduceEqDiff, Nat.reduceAdd, Nat.reduceLeDiff, Nat.reduceLT, Nat.reduceSub, Int.reduceLT, Int.reduceLE, Int.reduceEq, Int.reduceToNat, Option.map_some, List.length_map, List.getElem?_map, Int.toNat_natCast]
      rw [hl1] at h2
      exact ⟨i + 1, [⟨3, t, 0, i⟩], by rw [hsig]; simp only [tokStep, h1, if_true], rfl, by simpa using h2, h3⟩
    · obtain ⟨h1, rfl, h3⟩ := hp
      simp (maxSteps := 1000000) (disch := omega) only [go_sem, reduceIte, Nat.reduceEqDiff, Nat.reduceAdd, Nat.reduceLeDiff, Nat.reduceLT, Nat.reduceSub, Int.reduceLT, Int.reduceLE, Int.reduceEq, Int.reduceToNat, Option.map_some, List.length_map, List.getElem?_map, Int.toNat_natCast]
      exact ⟨by rw [hsig]; simp only [tokStep, h1]; rfl, rfl, h3⟩
theorem wrong_c (hb : Scan bx e s i xs) : CallsB Tryd.prog 24 39 [.loc 15 e 0 0] bx (StepPost e s xs bx none) (StepPan i bx none) := fnB_calls mixed (wrong_d hb) rfl (by kernel_rfl) rfl
theorem space_c (hs : s.length ≤ 65536) (hi : i ≤ s.length) (hb : Scan bx e s i xs) : CallsB Tryd.prog 25 39 [.loc 15 e 0 0] bx (StepPost e s xs bx (spaceStep s i)) (StepPan i bx (spaceStep s i)) := fnB_calls mixed (space_d hs hi hb) rfl (by kernel_rfl) rfl
theorem name_sc (hs : s.length ≤ 65536) (hxs : xs.length ≤ 65536) (hi : i ≤ s.length) (hb : Scan bx e s i xs) : CallsB Tryd.prog 26 39 [.loc 15 e 0 0] bx (StepPost e s xs bx (nameStep s i)) (StepPan i bx (nameStep s i)) := fnB_calls mixed (name_dd hs hxs hi hb) rfl (by kernel_rfl) rfl
theorem num_sc (hs : s.length ≤ 65536) (hxs : xs.length ≤ 65536) (hi : i ≤ s.length) (hb : Scan bx e s i xs) : CallsB Tryd.prog 27 39 [.loc 15 e 0 0] bx (StepPost e s xs bx (numStep s i)) (StepPan i bx (numStep s i)) := fnB_calls mixed (num_dd hs hxs hi hb) rfl (by kernel_rfl) rfl
theorem sign_sc (hs : s.length ≤ 65536) (hxs : xs.length ≤ 65536) (hi : i < s.length) (hb : Scan bx e s i xs) : CallsB Tryd.prog 28 39 [.loc 15 e 0 0] bx (StepPost e s xs bx (signStep s i)) (StepPan i bx (signStep s i)) := fnB_calls mixed (sign_dd hs hxs hi hb) rfl (by kernel_rfl) rfl
end Go.V.Lx
