/-
  Lex: the scanner's longest texts.
  Lex: a token is added; the scanner's steps.
  Lex: the scanner's steps.
-/
import Derived.Test.YtgcbdhnkigmfpaaGreatDoorLA
import Derived.Lib.AtoiAllCases
namespace Go.V.Lx
open Go.Proofs Go.RowKit
set_option linter.unusedSimpArgs false
set_option linter.unusedVariables false
set_option maxRecDepth 100000

theorem takeWhile_of {α : Type} (P : α → Bool) : ∀ (l : List α) (m : Nat), (l.take m).all P = true → (∀ x, l[m]? = some x → P x = false) → l.takeWhile P = l.take m
  | [], m, _, _ => by simp
  | x :: l, 0, _, h2 => by
    have := h2 x rfl
    simp [List.takeWhile_cons, this]
  | x :: l, m + 1, h1, h2 => by
    simp only [List.take_succ_cons, List.all_cons, Bool.and_eq_true] at h1
    rw [List.takeWhile_cons, if_pos h1.1, List.take_succ_cons, takeWhile_of P l m h1.2 (fun y hy => h2 y (by simpa using hy))]
def runB (p : List Int) (s : List UInt8) (i : Nat) : List UInt8 := (s.drop i).takeWhile fun c => p.contains (cls c)
theorem run_d (s : List UInt8) (i : Nat) (y : D) (p : List Int) (hs : s.length ≤ 140737488355328) (hi : i ≤ s.length) (hp : p.length ≤ 100) : fnD Tryz.prog (orac Tryz.prog) [] Tryz.f81 [.cref (scD s i y) 0, .sl 1 (p.map (D.int .i64))] (.str (runB p s i)) := by
  refine fn_intro _ [.tmp 4] _ rfl rfl rfl (by kernel_rfl) ?_
  simp (maxSteps := 1000000) (disch := omega) only [go_sem, scD]
  refine cD_loop (fun σ bx => ∃ k : Nat, i ≤ k ∧ k ≤ s.length ∧ σ 0 = .cref (scD s i y) 0 ∧ σ 1 = .sl 1 (p.map (D.int .i64)) ∧ σ 5 = .int .i64 k ∧ ((s.drop i).take (k - i)).all (fun c => p.contains (cls c)) = true) (fun σ _ => s.length - intN (σ 5))
    ⟨i, Nat.le_refl _, hi, by simp [go_sem, argsF, scD], by simp [go_sem, argsF], by simp [go_sem], by simp⟩ ?_
  rintro σ bx ⟨k, hik, hk, h0, h1, h5, hb⟩
  have fin : (∀ x, s[k]? = some x → p.contains (cls x) = false) → Weak (D.str ((s.drop i).take (k - i))) (.str (runB p s i)) := fun h => weak_eq (by
    unfold runB
    rw [takeWhile_of _ (s.drop i) (k - i) hb (fun x hx => h x (by rw [List.getElem?_drop] at hx; rw [show i + (k - i) = k by omega] at hx; exact hx))])
  by_cases hlt : k < s.length
  · obtain ⟨x, hx⟩ := get_lt hlt
    have hlt' : (k : Int) < (s.length : Int) := by omega
    repeat' (first | with_reducible refine condD_dec (fun _ => ?_) (fun _ => ?_) | with_reducible refine condD_split (fun _ => ?_) (fun _ => ?_) | with_reducible refine pureO (class_c x) (by simp [go_sem]) ?_ | with_reducible refine pureT (class_c x) (by simp [go_sem]) ?_ | with_reducible refine pureO (contains_c p (cls x) (by omega)) (by simp [go_sem]) ?_ | with_reducible refine pureT (contains_c p (cls x) (by omega)) (by simp [go_sem]) ?_ | simp (maxSteps := 1000000) (disch := omega) only [go_sem, *, scD, hlt'])
    · rename_i hc
      rw [wrap_succ (by omega)]
      refine ⟨⟨k + 1, by omega, by omega, rfl, ?_⟩, by simp only [intN]; omega⟩
      rw [show k + 1 - i = (k - i) + 1 by omega]
      refine take_all _ (x := x) (by rw [List.getElem?_drop, show i + (k - i) = k by omega]; exact hx) hb hc
    · rename_i hc
      refine fin fun z hz => ?_
      rw [hx] at hz; injection hz with hz; subst hz; exact hc
  · have hlt' : ¬ (k : Int) < (s.length : Int) := by omega
    repeat' (first | with_reducible refine condD_dec (fun _ => ?_) (fun _ => ?_) | with_reducible refine condD_split (fun _ => ?_) (fun _ => ?_) | simp (maxSteps := 1000000) (disch := omega) only [go_sem, *, scD, hlt'])
    exact fin fun z hz => absurd (List.getElem?_eq_some_iff.1 hz).1 hlt
theorem run_c (s : List UInt8) (i : Nat) (y : D) (p : List Int) (hs : s.length ≤ 140737488355328) (hi : i ≤ s.length) (hp : p.length ≤ 100) : CallsTo Tryz.prog 81 [.cref (scD s i y) 0, .sl 1 (p.map (D.int .i64))] (.str (runB p s i)) := fn_calls mixed (run_d s i y p hs hi hp) rfl (by kernel_rfl) rfl
end Go.V.Lx

namespace Go.V.Lx
open Go.Proofs Go.RowKit
set_option linter.unusedSimpArgs false
set_option linter.unusedVariables false
set_option maxRecDepth 100000

/-- the slots of the list of tokens -/
def slots : List Nat := [76, 96, 126]
def Scan (bx : Bxs) (e : Nat) (s : List UInt8) (i : Int) (xs : List Tok) : Prop := ∃ l, bx 15 = ⟨e, 1, 3, 96, [scD s i l]⟩ ∧ OwnV bx slots 77 4 l (xs.map Tok.d)
/-- what a step of the scanner leaves alone -/
def Kept (bx bx' : Bxs) : Prop := ∀ q, q < 39 → q ≠ 15 → bx' q = bx q
theorem Kept.refl (bx : Bxs) : Kept bx bx := fun _ _ _ => rfl
theorem Kept.trans {a b c : Bxs} (h : Kept a b) (k : Kept b c) : Kept a c := fun q h1 h2 => (k q h1 h2).trans (h q h1 h2)

set_option maxRecDepth 20000 in
theorem add_d (base e : Nat) (hbase : base = 50 ∨ base = 70 ∨ base = 100) (s t : List UInt8) (i : Nat) (xs : List Tok) (x : Tok) (bx : Bxs) (hs : s.length ≤ 65536) (ht : t.length ≤ 65536) (hxt : x.t.length ≤ 65536) (hi : i ≤ s.length) (hxs : xs.length ≤ 65536) (hb : Scan bx e s i xs) :
    fnB Tryz.prog (orac Tryz.prog) [(4, [(6, 4)])] Tryz.f82 base [.loc 15 e 0 0, .str t, x.d] bx
      (fun d bx' => validB x = true ∧ d = .tup [] ∧ Scan bx' e s (i + t.length) (xs ++ [{ x with a := i }]) ∧ Kept bx bx')
      (fun d bx' => validB x = false ∧ d = .ifc 89 (.int .i64 i) ∧ Kept bx bx') := by
  refine fnB_intro _ [] 38 rfl rfl rfl (by kernel_rfl) ?_
  obtain ⟨l, hb, hv⟩ := hb
  obtain ⟨v1, v2, v3⟩ := hv.facts
  have n1 : (15 : Nat) ≠ base + 5 := by omega
  have n2 : (15 : Nat) ≠ base + 26 := by omega
  have hxd : x.d = .agg [.int .i64 x.k, .str x.t, .int .i64 x.n, .int .i64 x.a] := rfl
  have hvc := valid_c x (by omega)
  rw [hxd] at hvc ⊢
  simp (maxSteps := 1000000) (disch := omega) only [go_sem, hb, scD, v1, v2, v3, n1]
  refine call_pure hvc (by simp [go_sem]) ?_
  simp (maxSteps := 1000000) (disch := omega) only [go_sem, hb, scD, v1, v2, v3, n1]
  refine condD_split (fun hval => ?_) (fun hval => ?_)
  · simp (maxSteps := 1000000) (disch := omega) only [go_sem, hb, scD, v1, v2, v3, n1]
    refine append_own (hv.of fun q hq => ?_) (by simp) (by simp [go_sem]) (by simp; omega) (by omega) (by omega) (fun q hq => ?_) (fun e' bx' g1 g2 => ?_)
    · have : q ≠ base + 5 := by simp [slots] at hq; omega
      simp [upd, this]
    · exact Nat.zero_le _
    · have g4 : bx' 15 = ⟨e, 1, 3, 96, [scD s i l]⟩ := by
        rw [g2 15 n2 (by simp [slots])]; simp [upd, n1, hb]
      simp (maxSteps := 1000000) (disch := omega) only [go_sem, g4, scD, v1, v2, v3, n1]
      rw [wrap_i64 (n := (i : Int) + _) (by omega) (by omega)]
      have e1 : List.map Tok.d xs ++ [D.agg [.int .i64 x.k, .str x.t, .int .i64 x.n, .int .i64 i]] = List.map Tok.d (xs ++ [{ x with a := i }]) := by simp [Tok.d]
      refine ⟨hval, ⟨_, by simp only [upd_same]; rfl, .inr ⟨base + 26, e', by simp [slots]; omega, ?_, ?_⟩⟩, fun q h1 h2 => ?_⟩
      · rw [e1]
      · rw [← e1]
        simp (disch := omega) only [upd_ne]
        exact g1
      · have q1 : q ≠ base + 26 := by omega
        have q2 : q ∉ slots := by simp [slots]; omega
        have q3 : q ≠ base + 5 := by omega
        simp (disch := omega) only [upd_ne]
        rw [g2 q q1 q2]
        simp (disch := omega) only [upd_ne]
  · simp (maxSteps := 1000000) (disch := omega) only [go_sem, hb, scD, v1, v2, v3, n1]
    exact ⟨hval, fun q h1 h2 => by simp (disch := omega) only [upd_ne]⟩
theorem add_c (base e : Nat) (hbase : base = 50 ∨ base = 70 ∨ base = 100) (s t : List UInt8) (i : Nat) (xs : List Tok) (x : Tok) (bx : Bxs) (hs : s.length ≤ 65536) (ht : t.length ≤ 65536) (hxt : x.t.length ≤ 65536) (hi : i ≤ s.length) (hxs : xs.length ≤ 65536) (hb : Scan bx e s i xs) :
    CallsB Tryz.prog 82 base [.loc 15 e 0 0, .str t, x.d] bx
      (fun d bx' => validB x = true ∧ d = .tup [] ∧ Scan bx' e s (i + t.length) (xs ++ [{ x with a := i }]) ∧ Kept bx bx')
      (fun d bx' => validB x = false ∧ d = .ifc 89 (.int .i64 i) ∧ Kept bx bx') :=
  fnB_calls mixed (add_d base e hbase s t i xs x bx hs ht hxt hi hxs hb) rfl (by kernel_rfl) rfl
end Go.V.Lx

namespace Go.V.Lx
open Go.Proofs Go.RowKit
set_option linter.unusedSimpArgs false
set_option linter.unusedVariables false
set_option maxRecDepth 100000

/-- What a step does: the next place and a token; or an error. -/
abbrev Step := Option (Nat × List Tok)
def tokStep (x : Tok) (i n : Nat) : Step := if validB x then some (i + n, [{ x with a := i }]) else none
def nameStep (s : List UInt8) (i : Nat) : Step := tokStep ⟨1, runB [2, 3, 5] s i, 0, 0⟩ i (runB [2, 3, 5] s i).length
def spaceStep (s : List UInt8) (i : Nat) : Step := some (i + (runB [1] s i).length, [])
def numStep (s : List UInt8) (i : Nat) : Step := match Lib.atoiAll (runB [3] s i) with
  | .ok v => if Lib.itoa v = runB [3] s i then tokStep ⟨2, [], v, 0⟩ i (runB [3] s i).length else none
  | _ => none
def signStep (s : List UInt8) (i : Nat) : Step :=
  if Lib.hasPrefix (s.drop i) [47, 47] then some (if 0 ≤ Lib.indexByte (s.drop i) 10 then i + (Lib.indexByte (s.drop i) 10).toNat else s.length, [])
  else tokStep ⟨3, (s.drop i).take 1, 0, 0⟩ i 1
/-- behind a step -/
def StepPost (e : Nat) (s : List UInt8) (xs : List Tok) (bx : Bxs) (r : Step) : D → Bxs → Prop := fun d bx' => ∃ k l, r = some (k, l) ∧ d = .tup [] ∧ Scan bx' e s k (xs ++ l) ∧ Kept bx bx'
def StepPan (i : Nat) (bx : Bxs) (r : Step) : D → Bxs → Prop := fun d bx' => r = none ∧ d = .ifc 89 (.int .i64 i) ∧ Kept bx bx'
theorem run_len (p : List Int) (s : List UInt8) (i : Nat) (h : i ≤ s.length) : i + (runB p s i).length ≤ s.length := by
  have h1 : (runB p s i).length ≤ (s.drop i).length := (List.takeWhile_prefix _).length_le
  rw [List.length_drop] at h1
  omega

variable {e : Nat} {s : List UInt8} {i : Nat} {xs : List Tok} {bx : Bxs}
theorem scan_out {l : D} (hb : bx 15 = ⟨e, 1, 3, 96, [scD s i l]⟩) : ∃ y, outD bx (.loc 15 e 0 0) = some (.cref (scD s i y) 0) := by
  rw [outD_loc, hb, outP_live]
  simp only [List.getElem?_cons_zero, outP1_some]
  split
  · exact ⟨_, rfl⟩
  · exact ⟨l.veilC, by simp [scD, go_sem]⟩
theorem wrong_d (hb : Scan bx e s i xs) : fnB Tryz.prog (orac Tryz.prog) [] Tryz.f47 39 [.loc 15 e 0 0] bx (StepPost e s xs bx none) (StepPan i bx none) := by
  refine fnB_intro _ [] 7 rfl rfl rfl (by kernel_rfl) ?_
  obtain ⟨l, hb, hv⟩ := hb
  simp (maxSteps := 1000000) (disch := omega) only [go_sem, hb, scD]
  exact ⟨rfl, rfl, .refl _⟩
theorem space_d (hs : s.length ≤ 65536) (hi : i ≤ s.length) (hb : Scan bx e s i xs) : fnB Tryz.prog (orac Tryz.prog) [(0, [(8, 6), (8, 5)])] Tryz.f48 39 [.loc 15 e 0 0] bx (StepPost e s xs bx (spaceStep s i)) (StepPan i bx (spaceStep s i)) := by
  refine fnB_intro _ [] 13 rfl rfl rfl (by kernel_rfl) ?_
  obtain ⟨l, hb, hv⟩ := hb
  obtain ⟨v1, v2, v3⟩ := hv.facts
  obtain ⟨y, hy⟩ := scan_out hb
  have hr := run_len [1] s i hi
  simp (maxSteps := 1000000) (disch := omega) only [go_sem, hb, scD, v1, v2, v3]
  refine call_read (run_c s i y [1] (by omega) hi (by simp)) (by simp only [outL_cons, outL_nil, outD_sl, hy, consO_some, List.map_cons, List.map_nil]) rfl ?_
  simp (maxSteps := 1000000) (disch := omega) only [go_sem, hb, scD, v1, v2, v3]
  rw [wrap_i64 (n := (i : Int) + _) (by omega) (by omega)]
  refine ⟨_, _, rfl, rfl, ⟨l, ?_, ?_⟩, fun q h1 h2 => ?_⟩
  · simp [upd, scD]
  · rw [List.append_nil]
    exact hv.of fun q hq => by
      have : q ≠ 15 := by simp [slots] at hq; omega
      simp [upd, this]
  · simp [upd, h2]
theorem name_dd (hs : s.length ≤ 65536) (hxs : xs.length ≤ 65536) (hi : i ≤ s.length) (hb : Scan bx e s i xs) : fnB Tryz.prog (orac Tryz.prog) [] Tryz.f49 39 [.loc 15 e 0 0] bx (StepPost e s xs bx (nameStep s i)) (StepPan i bx (nameStep s i)) := by
  refine fnB_intro _ [] 11 rfl rfl rfl (by kernel_rfl) ?_
  have hb0 := hb
  obtain ⟨l, hb, hv⟩ := hb
  obtain ⟨y, hy⟩ := scan_out hb
  have hr := run_len [2, 3, 5] s i hi
  simp (maxSteps := 1000000) (disch := omega) only [go_sem, hb, scD]
  refine call_read (run_c s i y [2, 3, 5] (by omega) hi (by simp)) (by simp only [outL_cons, outL_nil, outD_sl, hy, consO_some, List.map_cons, List.map_nil]) rfl ?_
  generalize hrun : runB [2, 3, 5] s i = t at hr ⊢
  simp (maxSteps := 1000000) (disch := omega) only [go_sem, hb, scD]
  refine call_pan (add_c 50 e (.inl rfl) s t i xs ⟨1, t, 0, 0⟩ bx hs (by omega) (by simp only []; omega) hi hxs hb0) rfl (fun d bx' hp => ?_) (fun d bx' hp => ?_)
  · obtain ⟨h1, rfl, h2, h3⟩ := hp
    simp (maxSteps := 1000000) (disch := omega) only [go_sem]
    exact ⟨i + t.length, [⟨1, t, 0, i⟩], by simp only [nameStep, tokStep, hrun, h1, if_true], rfl, by simpa using h2, h3⟩
  · obtain ⟨h1, rfl, h3⟩ := hp
    simp (maxSteps := 1000000) (disch := omega) only [go_sem]
    exact ⟨by simp only [nameStep, tokStep, hrun, h1]; rfl, rfl, h3⟩
theorem num_dd (hs : s.length ≤ 65536) (hxs : xs.length ≤ 65536) (hi : i ≤ s.length) (hb : Scan bx e s i xs) : fnB Tryz.prog (orac Tryz.prog) [] Tryz.f50 39 [.loc 15 e 0 0] bx (StepPost e s xs bx (numStep s i)) (StepPan i bx (numStep s i)) := by
  refine fnB_intro _ [] 31 rfl rfl rfl (by kernel_rfl) ?_
  have hb0 := hb
  obtain ⟨l, hb, hv⟩ := hb
  obtain ⟨y, hy⟩ := scan_out hb
  have hr := run_len [3] s i hi
  simp (maxSteps := 1000000) (disch := omega) only [go_sem, hb, scD]
  refine call_read (run_c s i y [3] (by omega) hi (by simp)) (by simp only [outL_cons, outL_nil, outD_sl, hy, consO_some, List.map_cons, List.map_nil]) rfl ?_
  have hnum : numStep s i = match Lib.atoiAll (runB [3] s i) with
    | .ok v => if Lib.itoa v = runB [3] s i then tokStep ⟨2, [], v, 0⟩ i (runB [3] s i).length else none
    | _ => none := rfl
  generalize runB [3] s i = t at hr hnum ⊢
  have hat := atoi_c t (by omega)
  unfold atoiD at hat
  simp (maxSteps := 1000000) (disch := omega) only [go_sem, hb, scD]
  cases hcase : Lib.atoiAll t with
  | ok v =>
    rw [hcase] at hat hnum
    simp only at hat hnum
    have hv1 : -9223372036854775808 ≤ v ∧ v ≤ 9223372036854775807 := Lib.atoiAll_bounds hcase
    refine call_pure hat (by simp [go_sem]) ?_
    simp (maxSteps := 1000000) (disch := omega) only [go_sem, hb, scD, nilE]
    refine call_pure (itoa_c v hv1.1 hv1.2) (by simp [go_sem]) ?_
    simp (maxSteps := 1000000) (disch := omega) only [go_sem, hb, scD]
    refine condD_dec (fun h1 => ?_) (fun h1 => ?_)
    · simp (maxSteps := 1000000) (disch := omega) only [go_sem, hb, scD]
      rw [if_pos h1] at hnum
      refine call_pan (add_c 70 e (.inr (.inl rfl)) s t i xs ⟨2, [], v, 0⟩ bx hs (by omega) (by simp) hi hxs hb0) rfl (fun d bx' hp => ?_) (fun d bx' hp => ?_)
      · obtain ⟨h1, rfl, h2, h3⟩ := hp
        simp (maxSteps := 1000000) (disch := omega) only [go_sem]
        exact ⟨i + t.length, [⟨2, [], v, i⟩], by rw [hnum]; simp only [tokStep, h1, if_true], rfl, by simpa using h2, h3⟩
      · obtain ⟨h1, rfl, h3⟩ := hp
        simp (maxSteps := 1000000) (disch := omega) only [go_sem]
        exact ⟨by rw [hnum]; simp only [tokStep, h1]; rfl, rfl, h3⟩
    · simp (maxSteps := 1000000) (disch := omega) only [go_sem, hb, scD]
      rw [if_neg h1] at hnum
      exact ⟨hnum, rfl, .refl _⟩
  | _ =>
    rw [hcase] at hat hnum
    simp only at hat hnum
    refine call_pure hat (by simp [go_sem]) ?_
    simp (maxSteps := 1000000) (disch := omega) only [go_sem, hb, scD, nilE]
    exact ⟨hnum, rfl, .refl _⟩
theorem indexByte_le (l : List UInt8) (c : UInt8) : Lib.indexByte l c ≤ l.length := by
  induction l with
  | nil => simp [Lib.indexByte]
  | cons x l ih =>
    simp only [Lib.indexByte, List.length_cons]
    split
    · omega
    · split <;> omega
theorem sign_dd (hs : s.length ≤ 65536) (hxs : xs.length ≤ 65536) (hi : i < s.length) (hb : Scan bx e s i xs) : fnB Tryz.prog (orac Tryz.prog) [] Tryz.f51 39 [.loc 15 e 0 0] bx (StepPost e s xs bx (signStep s i)) (StepPan i bx (signStep s i)) := by
  refine fnB_intro _ [] 61 rfl rfl rfl (by kernel_rfl) ?_
  have hb0 := hb
  obtain ⟨l, hb, hv⟩ := hb
  obtain ⟨v1, v2, v3⟩ := hv.facts
  have ix := Lib.indexByte_ge (s.drop i) 10
  have ix2 : Lib.indexByte (s.drop i) 10 ≤ (s.drop i).length := indexByte_le _ _
  rw [List.length_drop] at ix2
  have keep : ∀ (v : D) (j : Nat), signStep s i = some (j, []) → v = scD s j l → StepPost e s xs bx (signStep s i) (.tup []) (upd bx 15 ⟨e, 1, 3, 96, [v]⟩) := by
    intro v j h1 h2
    refine ⟨j, [], h1, rfl, ⟨l, by simp [upd, h2], ?_⟩, fun q h1 h2 => by simp [upd, h2]⟩
    rw [List.append_nil]
    refine hv.of fun q hq => ?_
    have : q ≠ 15 := by simp [slots] at hq; omega
    simp [upd, this]
  simp (maxSteps := 1000000) (disch := omega) only [go_sem, hb, scD]
  have e0 : (s.drop i).take (s.length - i) = s.drop i := List.take_of_length_le (by simp)
  rw [e0]
  refine call_pure (hasPrefix_c (s.drop i) [47, 47]) (by simp [go_sem]) ?_
  simp (maxSteps := 1000000) (disch := omega) only [go_sem, hb, scD]
  refine condD_split (fun hp => ?_) (fun hp => ?_)
  · have hsig : signStep s i = some (if 0 ≤ Lib.indexByte (s.drop i) 10 then i + (Lib.indexByte (s.drop i) 10).toNat else s.length, []) := by
      unfold signStep; rw [if_pos hp]
    simp (maxSteps := 1000000) (disch := omega) only [go_sem, hb, scD, e0]
    refine call_pure (indexByte_c (s.drop i) 10) (by simp [go_sem]) ?_
    simp (maxSteps := 1000000) (disch := omega) only [go_sem, hb, scD]
    refine condD_dec (fun h1 => ?_) (fun h1 => ?_)
    · rw [if_pos h1] at hsig
      simp (maxSteps := 1000000) (disch := omega) only [go_sem, hb, scD, v1, v2, v3]
      rw [wrap_i64 (n := (i : Int) + _) (by omega) (by omega)]
      have e1 : ((i + (Lib.indexByte (s.drop i) 10).toNat : Nat) : Int) = (i : Int) + Lib.indexByte (s.drop i) 10 := by omega
      exact keep _ _ hsig (by simp only [scD]; rw [e1])
    · rw [if_neg h1] at hsig
      simp (maxSteps := 1000000) (disch := omega) only [go_sem, hb, scD, v1, v2, v3]
      exact keep _ _ hsig rfl
  · simp (maxSteps := 1000000) (disch := omega) only [go_sem, hb, scD, v1, v2, v3]
    rw [wrap_i64 (n := (i : Int) + 1) (by omega) (by omega)]
    have e1 : ((i : Int) + 1).toNat = i + 1 := by omega
    have e2 : i + 1 - i = 1 := by omega
    have hsig : signStep s i = tokStep ⟨3, (s.drop i).take 1, 0, 0⟩ i 1 := by
      unfold signStep; rw [if_neg (by simp [hp])]
    have hl1 : ((s.drop i).take 1).length = 1 := by rw [List.length_take, List.length_drop]; omega
    simp (maxSteps := 1000000) (disch := omega) only [go_sem, hb, scD, v1, v2, v3, e1, e2]
    generalize (s.drop i).take 1 = t at hsig hl1 ⊢
    refine call_pan (add_c 100 e (.inr (.inr rfl)) s t i xs ⟨3, t, 0, 0⟩ bx hs (by omega) (by simp only []; omega) (by omega) hxs hb0) rfl (fun d bx' hp => ?_) (fun d bx' hp => ?_)
    · obtain ⟨h1, rfl, h2, h3⟩ := hp
      simp (maxSteps := 1000000) (disch := omega) only [go_sem]
      rw [hl1] at h2
      exact ⟨i + 1, [⟨3, t, 0, i⟩], by rw [hsig]; simp only [tokStep, h1, if_true], rfl, by simpa using h2, h3⟩
    · obtain ⟨h1, rfl, h3⟩ := hp
      simp (maxSteps := 1000000) (disch := omega) only [go_sem]
      exact ⟨by rw [hsig]; simp only [tokStep, h1]; rfl, rfl, h3⟩
theorem wrong_c (hb : Scan bx e s i xs) : CallsB Tryz.prog 47 39 [.loc 15 e 0 0] bx (StepPost e s xs bx none) (StepPan i bx none) := fnB_calls mixed (wrong_d hb) rfl (by kernel_rfl) rfl
theorem space_c (hs : s.length ≤ 65536) (hi : i ≤ s.length) (hb : Scan bx e s i xs) : CallsB Tryz.prog 48 39 [.loc 15 e 0 0] bx (StepPost e s xs bx (spaceStep s i)) (StepPan i bx (spaceStep s i)) := fnB_calls mixed (space_d hs hi hb) rfl (by kernel_rfl) rfl
theorem name_sc (hs : s.length ≤ 65536) (hxs : xs.length ≤ 65536) (hi : i ≤ s.length) (hb : Scan bx e s i xs) : CallsB Tryz.prog 49 39 [.loc 15 e 0 0] bx (StepPost e s xs bx (nameStep s i)) (StepPan i bx (nameStep s i)) := fnB_calls mixed (name_dd hs hxs hi hb) rfl (by kernel_rfl) rfl
theorem num_sc (hs : s.length ≤ 65536) (hxs : xs.length ≤ 65536) (hi : i ≤ s.length) (hb : Scan bx e s i xs) : CallsB Tryz.prog 50 39 [.loc 15 e 0 0] bx (StepPost e s xs bx (numStep s i)) (StepPan i bx (numStep s i)) := fnB_calls mixed (num_dd hs hxs hi hb) rfl (by kernel_rfl) rfl
theorem sign_sc (hs : s.length ≤ 65536) (hxs : xs.length ≤ 65536) (hi : i < s.length) (hb : Scan bx e s i xs) : CallsB Tryz.prog 51 39 [.loc 15 e 0 0] bx (StepPost e s xs bx (signStep s i)) (StepPan i bx (signStep s i)) := fnB_calls mixed (sign_dd hs hxs hi hb) rfl (by kernel_rfl) rfl
end Go.V.Lx
