/-
  Lex: a token is added; the scanner's steps.
-/
import Derived.Test.YtbnniokcdilpgaaDoorLd
namespace Go.V.Lx
open Go.Proofs Go.RowKit
set_option linter.unusedSimpArgs false
set_option linter.unusedVariables false

/-- the slots of the list of tokens -/
def slots : List Nat := [76, 96, 126]
def Scan (bx : Bxs) (e : Nat) (s : List UInt8) (i : Int) (xs : List Tok) : Prop := ∃ l, bx 15 = ⟨e, 1, 3, 49, [scD s i l]⟩ ∧ OwnV bx slots 35 4 l (xs.map Tok.d)
/-- what a step of the scanner leaves alone -/
def Kept (bx bx' : Bxs) : Prop := ∀ q, q < 39 → q ≠ 15 → bx' q = bx q
theorem Kept.refl (bx : Bxs) : Kept bx bx := fun _ _ _ => rfl
theorem Kept.trans {a b c : Bxs} (h : Kept a b) (k : Kept b c) : Kept a c := fun q h1 h2 => (k q h1 h2).trans (h q h1 h2)

set_option maxRecDepth 20000 in
theorem add_d (base e : Nat) (hbase : base = 50 ∨ base = 70 ∨ base = 100) (s t : List UInt8) (i : Nat) (xs : List Tok) (x : Tok) (bx : Bxs) (hs : s.length ≤ 65536) (ht : t.length ≤ 65536) (hxt : x.t.length ≤ 65536) (hi : i ≤ s.length) (hxs : xs.length ≤ 65536) (hb : Scan bx e s i xs) :
    fnB Tryd.prog (orac Tryd.prog) [(4, [(6, 4)])] Tryd.f43 base [.loc 15 e 0 0, .str t, x.d] bx
      (fun d bx' => validB x = true ∧ d = .tup [] ∧ Scan bx' e s (i + t.length) (xs ++ [{ x with a := i }]) ∧ Kept bx bx')
      (fun d bx' => validB x = false ∧ d = .ifc 42 (.int .i64 i) ∧ Kept bx bx') := by
  refine fnB_intro _ [] 38 rfl rfl rfl (by kernel_rfl) ?_
  obtain ⟨l, hb, hv⟩ := hb
  obtain ⟨v1, v2, v3⟩ := hv.facts
  have n1 : (15 : Nat) ≠ base + 5 := by omega
  have n2 : (15 : Nat) ≠ base + 26 := by omega
  have hxd : x.d = .agg [.int .i64 x.k, .str x.t, .int .i64 x.n, .int .i64 x.a] := rfl
  have hvc := valid_c x (by omega)
  rw [hxd] at hvc ⊢
  simp (maxSteps := 1000000) (disch := omega) only [go_sem, reduceIte, Nat.reduceEqDiff, Nat.reduceAdd, Nat.reduceLeDiff, Nat.reduceLT, Nat.reduceSub, Int.reduceLT, Int.reduceLE, Int.reduceEq, Int.reduceToNat, Option.map_some, List.length_map, List.getElem?_map, Int.toNat_natCast, hb, scD, v1, v2, v3, n1]
  refine call_pure hvc (by simp [go_sem]) ?_
  simp (maxSteps := 1000000) (disch := omega) only [go_sem, reduceIte, Nat.reduceEqDiff, Nat.reduceAdd, Nat.reduceLeDiff, Nat.reduceLT, Nat.reduceSub, Int.reduceLT, Int.reduceLE, Int.reduceEq, Int.reduceToNat, Option.map_some, List.length_map, List.getElem?_map, Int.toNat_natCast, hb, scD, v1, v2, v3, n1]
  refine condD_split (fun hval => ?_) (fun hval => ?_)
  · simp (maxSteps := 1000000) (disch := omega) only [go_sem, reduceIte, Nat.reduceEqDiff, Nat.reduceAdd, Nat.reduceLeDiff, Nat.reduceLT, Nat.reduceSub, Int.reduceLT, Int.reduceLE, Int.reduceEq, Int.reduceToNat, Option.map_some, List.length_map, List.getElem?_map, Int.toNat_natCast, hb, scD, v1, v2, v3, n1]
    refine append_own (hv.of fun q hq => ?_) (by simp) (by simp [go_sem]) (by simp; omega) (by omega) (by omega) (fun q hq => ?_) (fun e' bx' g1 g2 => ?_)
    · have : q ≠ base + 5 := by simp [slots] at hq; omega
      simp [upd, this]
    · exact Nat.zero_le _
    · have g4 : bx' 15 = ⟨e, 1, 3, 49, [scD s i l]⟩ := by
        rw [g2 15 n2 (by simp [slots])]; simp [upd, n1, hb]
      simp (maxSteps := 1000000) (disch := omega) only [go_sem, reduceIte, Nat.reduceEqDiff, Nat.reduceAdd, Nat.reduceLeDiff, Nat.reduceLT, Nat.reduceSub, Int.reduceLT, Int.reduceLE, Int.reduceEq, Int.reduceToNat, Option.map_some, List.length_map, List.getElem?_map, Int.toNat_natCast, g4, scD, v1, v2, v3, n1]
      rw [wrap_i64 (n := (i : Int) + _) (by omega) (by omega)]
      have e1 : List.map Tok.d xs ++ [D.agg [.int .i64 x.k, .str x.t, .int .i64 x.n, .int .i64 i]] = List.map Tok.d (xs ++ [{ x with a := i }]) := by simp [Tok.d]
      refine ⟨hval, ⟨_, by simp only [upd_same]; rfl, .inr ⟨base + 26, e', by simp [slots]; omega, ?_, ?_⟩⟩, fun q h1 h2 => ?_⟩
      · rw [e1]
      · rw [← e1]
        simp (disch := omega) only [upd_ne]
        exact g1
      · have q1 : q ≠ base + 26 := by omega
        have q2 : q ∉ slots := by simp [slots]; omega
        have q3 : q ≠ base + 5 := by omega
        simp (disch := omega) only [upd_ne]
        rw [g2 q q1 q2]
        simp (disch := omega) only [upd_ne]
  · simp (maxSteps := 1000000) (disch := omega) only [go_sem, reduceIte, Nat.reduceEqDiff, Nat.reduceAdd, Nat.reduceLeDiff, Nat.reduceLT, Nat.reduceSub, Int.reduceLT, Int.reduceLE, Int.reduceEq, Int.reduceToNat, Option.map_some, List.length_map, List.getElem?_map, Int.toNat_natCast, hb, scD, v1, v2, v3, n1]
    exact ⟨hval, fun q h1 h2 => by simp (disch := omega) only [upd_ne]⟩
theorem add_c (base e : Nat) (hbase : base = 50 ∨ base = 70 ∨ base = 100) (s t : List UInt8) (i : Nat) (xs : List Tok) (x : Tok) (bx : Bxs) (hs : s.length ≤ 65536) (ht : t.length ≤ 65536) (hxt : x.t.length ≤ 65536) (hi : i ≤ s.length) (hxs : xs.length ≤ 65536) (hb : Scan bx e s i xs) :
    CallsB Tryd.prog 43 base [.loc 15 e 0 0, .str t, x.d] bx
      (fun d bx' => validB x = true ∧ d = .tup [] ∧ Scan bx' e s (i + t.length) (xs ++ [{ x with a := i }]) ∧ Kept bx bx')
      (fun d bx' => validB x = false ∧ d = .ifc 42 (.int .i64 i) ∧ Kept bx bx') :=
  fnB_calls mixed (add_d base e hbase s t i xs x bx hs ht hxt hi hxs hb) rfl (by kernel_rfl) rfl
end Go.V.Lx
