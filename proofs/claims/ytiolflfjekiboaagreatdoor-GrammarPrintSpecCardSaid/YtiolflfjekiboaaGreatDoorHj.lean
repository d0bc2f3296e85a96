/-
  Grammar: the reference's tokens of a grammar.
-/
import Derived.Test.YtiolflfjekiboaaGreatDoorGg
namespace Go.V.Gr
open Go.Proofs Go.RowKit Go.V.Lx
set_option linter.unusedSimpArgs false
set_option linter.unusedVariables false
set_option maxRecDepth 100000

def slotsT : List Nat := [509, 609, 709]
def OwnT (bx : Bxs) (v : D) (xs : List Tk) : Prop := OwnV bx slotsT 42 4 v (xs.map Tok.d)
theorem OwnT.of {bx bx' : Bxs} {v : D} {xs : List Tk} (h : OwnT bx v xs) (hb : ∀ q, 500 ≤ q → bx' q = bx q) : OwnT bx' v xs := OwnV.of h fun t ht => hb t (by simp [slotsT] at ht; omega)
theorem OwnT.up {bx : Bxs} {v : D} {xs : List Tk} (h : OwnT bx v xs) {s : Nat} (hs : s < 500) (b : Bx) : OwnT (upd bx s b) v xs := h.of fun q hq => upd_ne (by omega)
/-- what a call that adds tokens does -/
def AddsAt (f : FuncId) (args : List D) (m : Nat) (new : List Tk) (bx : Bxs) (v : D) (xs : List Tk) : Prop := CallsB Tryz.prog f 0 (v :: args) bx (fun d b2 => OwnT b2 d (xs ++ new) ∧ ∀ q, q < m → b2 q = bx q) (fun _ _ => False)
def Adds (f : FuncId) (args : List D) (m : Nat) (new : List Tk) : Prop := ∀ (bx : Bxs) (v : D) (xs : List Tk), OwnT bx v xs → xs.length ≤ 950000 → AddsAt f args m new bx v xs
theorem tput_d (t : Str) (bx : Bxs) (v : D) (xs : List Tk) (hv : OwnT bx v xs) (hl : xs.length ≤ 950000) : fnB Tryz.prog (orac Tryz.prog) [] Tryz.f103 500 [v, .str t] bx (fun d b2 => OwnT b2 d (xs ++ [nT t]) ∧ ∀ q, q < 500 → b2 q = bx q) (fun _ _ => False) := by
  refine fnB_intro _ [.tmp 4] 10 rfl rfl rfl (by kernel_rfl) ?_
  simp (maxSteps := 1000000) (disch := omega) only [go_sem, reduceIte, Nat.reduceEqDiff, Nat.reduceAdd, Nat.reduceLeDiff, Nat.reduceLT, Nat.reduceSub, Int.reduceLT, Int.reduceLE, Int.reduceEq, Int.reduceToNat, Option.map_some, List.length_map, List.getElem?_map, Int.toNat_natCast]
  refine append_own hv (by simp) (by simp [go_sem]) (by simp; omega) (by omega) (by omega) (fun q hq => Nat.zero_le _) (fun e' b1 g1 g2 => ?_)
  have hm : xs.map Tok.d ++ [.agg [.int .i64 1, .str t, .int .i64 0, .int .i64 0]] = (xs ++ [nT t]).map Tok.d := by rw [List.map_append]; rfl
  rw [hm] at g1 ⊢
  simp (maxSteps := 1000000) (disch := omega) only [go_sem, reduceIte, Nat.reduceEqDiff, Nat.reduceAdd, Nat.reduceLeDiff, Nat.reduceLT, Nat.reduceSub, Int.reduceLT, Int.reduceLE, Int.reduceEq, Int.reduceToNat, Option.map_some, List.length_map, List.getElem?_map, Int.toNat_natCast]
  exact ⟨.inr ⟨509, e', by simp [slotsT], by rw [List.length_map], g1⟩, fun q hq => g2 q (by omega) (by simp [slotsT]; omega)⟩
theorem put_t (t : Str) : Adds 103 [.str t] 500 [nT t] := fun bx v xs hv hl => (fnB_calls mixed (tput_d t bx v xs hv hl) rfl (by kernel_rfl) rfl : CallsB _ _ 500 _ _ _ _)
theorem tmark_d (t : Str) (bx : Bxs) (v : D) (xs : List Tk) (hv : OwnT bx v xs) (hl : xs.length ≤ 950000) : fnB Tryz.prog (orac Tryz.prog) [] Tryz.f70 600 [v, .str t] bx (fun d b2 => OwnT b2 d (xs ++ [sT t]) ∧ ∀ q, q < 500 → b2 q = bx q) (fun _ _ => False) := by
  refine fnB_intro _ [.tmp 4] 10 rfl rfl rfl (by kernel_rfl) ?_
  simp (maxSteps := 1000000) (disch := omega) only [go_sem, reduceIte, Nat.reduceEqDiff, Nat.reduceAdd, Nat.reduceLeDiff, Nat.reduceLT, Nat.reduceSub, Int.reduceLT, Int.reduceLE, Int.reduceEq, Int.reduceToNat, Option.map_some, List.length_map, List.getElem?_map, Int.toNat_natCast]
  refine append_own hv (by simp) (by simp [go_sem]) (by simp; omega) (by omega) (by omega) (fun q hq => Nat.zero_le _) (fun e' b1 g1 g2 => ?_)
  have hm : xs.map Tok.d ++ [.agg [.int .i64 3, .str t, .int .i64 0, .int .i64 0]] = (xs ++ [sT t]).map Tok.d := by rw [List.map_append]; rfl
  rw [hm] at g1 ⊢
  simp (maxSteps := 1000000) (disch := omega) only [go_sem, reduceIte, Nat.reduceEqDiff, Nat.reduceAdd, Nat.reduceLeDiff, Nat.reduceLT, Nat.reduceSub, Int.reduceLT, Int.reduceLE, Int.reduceEq, Int.reduceToNat, Option.map_some, List.length_map, List.getElem?_map, Int.toNat_natCast]
  exact ⟨.inr ⟨609, e', by simp [slotsT], by rw [List.length_map], g1⟩, fun q hq => g2 q (by omega) (by simp [slotsT]; omega)⟩
theorem mark_t (t : Str) : Adds 70 [.str t] 500 [sT t] := fun bx v xs hv hl => (fnB_calls mixed (tmark_d t bx v xs hv hl) rfl (by kernel_rfl) rfl : CallsB _ _ 600 _ _ _ _)
theorem tdigits_d (t : Int) (bx : Bxs) (v : D) (xs : List Tk) (hv : OwnT bx v xs) (hl : xs.length ≤ 950000) : fnB Tryz.prog (orac Tryz.prog) [] Tryz.f104 700 [v, .int .i64 t] bx (fun d b2 => OwnT b2 d (xs ++ [dT t]) ∧ ∀ q, q < 500 → b2 q = bx q) (fun _ _ => False) := by
  refine fnB_intro _ [.tmp 4] 10 rfl rfl rfl (by kernel_rfl) ?_
  simp (maxSteps := 1000000) (disch := omega) only [go_sem, reduceIte, Nat.reduceEqDiff, Nat.reduceAdd, Nat.reduceLeDiff, Nat.reduceLT, Nat.reduceSub, Int.reduceLT, Int.reduceLE, Int.reduceEq, Int.reduceToNat, Option.map_some, List.length_map, List.getElem?_map, Int.toNat_natCast]
  refine append_own hv (by simp) (by simp [go_sem]) (by simp; omega) (by omega) (by omega) (fun q hq => Nat.zero_le _) (fun e' b1 g1 g2 => ?_)
  have hm : xs.map Tok.d ++ [.agg [.int .i64 2, .str [], .int .i64 t, .int .i64 0]] = (xs ++ [dT t]).map Tok.d := by rw [List.map_append]; rfl
  rw [hm] at g1 ⊢
  simp (maxSteps := 1000000) (disch := omega) only [go_sem, reduceIte, Nat.reduceEqDiff, Nat.reduceAdd, Nat.reduceLeDiff, Nat.reduceLT, Nat.reduceSub, Int.reduceLT, Int.reduceLE, Int.reduceEq, Int.reduceToNat, Option.map_some, List.length_map, List.getElem?_map, Int.toNat_natCast]
  exact ⟨.inr ⟨709, e', by simp [slotsT], by rw [List.length_map], g1⟩, fun q hq => g2 q (by omega) (by simp [slotsT]; omega)⟩
theorem digits_t (t : Int) : Adds 104 [.int .i64 t] 500 [dT t] := fun bx v xs hv hl => (fnB_calls mixed (tdigits_d t bx v xs hv hl) rfl (by kernel_rfl) rfl : CallsB _ _ 700 _ _ _ _)
theorem puts_d (s t : Str) (bx : Bxs) (v : D) (xs : List Tk) (hv : OwnT bx v xs) (hl : xs.length ≤ 949999) : fnB Tryz.prog (orac Tryz.prog) [] Tryz.f71 300 [v, .str s, .str t] bx (fun d b2 => OwnT b2 d (xs ++ [nT s, nT t]) ∧ ∀ q, q < 500 → b2 q = bx q) (fun _ _ => False) := by
  refine fnB_intro _ [.tmp 6] 12 rfl rfl rfl (by kernel_rfl) ?_
  simp (maxSteps := 1000000) (disch := omega) only [go_sem, reduceIte, Nat.reduceEqDiff, Nat.reduceAdd, Nat.reduceLeDiff, Nat.reduceLT, Nat.reduceSub, Int.reduceLT, Int.reduceLE, Int.reduceEq, Int.reduceToNat, Option.map_some, List.length_map, List.getElem?_map, Int.toNat_natCast]
  refine call_boxes (put_t s bx v xs hv (by omega)) rfl ?_
  rintro d b1 ⟨h1, h2⟩
  simp (maxSteps := 1000000) (disch := omega) only [go_sem, reduceIte, Nat.reduceEqDiff, Nat.reduceAdd, Nat.reduceLeDiff, Nat.reduceLT, Nat.reduceSub, Int.reduceLT, Int.reduceLE, Int.reduceEq, Int.reduceToNat, Option.map_some, List.length_map, List.getElem?_map, Int.toNat_natCast]
  refine call_boxes (put_t t b1 d _ h1 (by simp; omega)) rfl ?_
  rintro d' b2 ⟨h3, h4⟩
  simp (maxSteps := 1000000) (disch := omega) only [go_sem, reduceIte, Nat.reduceEqDiff, Nat.reduceAdd, Nat.reduceLeDiff, Nat.reduceLT, Nat.reduceSub, Int.reduceLT, Int.reduceLE, Int.reduceEq, Int.reduceToNat, Option.map_some, List.length_map, List.getElem?_map, Int.toNat_natCast]
  rw [List.append_assoc] at h3
  exact ⟨h3, fun q hq => (h4 q hq).trans (h2 q hq)⟩
theorem puts_t (s t : Str) (bx : Bxs) (v : D) (xs : List Tk) (hv : OwnT bx v xs) (hl : xs.length ≤ 949999) : AddsAt 71 [.str s, .str t] 500 [nT s, nT t] bx v xs := (fnB_calls mixed (puts_d s t bx v xs hv hl) rfl (by kernel_rfl) rfl : CallsB _ _ 300 _ _ _ _)
set_option maxHeartbeats 8000000 in
theorem putEntry_d (x : Entry) (bx : Bxs) (v : D) (xs : List Tk) (hv : OwnT bx v xs) (hl : xs.length + (tokEntry x).length ≤ 949999) (hg : x.gives.length ≤ 1000000) : fnB Tryz.prog (orac Tryz.prog) [(2000001, []), (2000008, []), (1, [(5, 3)]), (8, [(5, 3)])] Tryz.f72 300 [v, x.d] bx (fun d b2 => OwnT b2 d (xs ++ tokEntry x) ∧ ∀ q, q < 300 → b2 q = bx q) (fun _ _ => False) := by
  refine fnB_intro _ [.tmp 4] 38 rfl rfl rfl (by kernel_rfl) ?_
  have hxd : x.d = .agg [.str x.text, .str x.cat, .int .i64 x.no, .sl 1 (x.gives.map D.str), .int .i64 x.cost] := rfl
  have hel : (tokEntry x).length = 5 + (tokGives x.gives).length + 3 := by simp only [tokEntry, tokEnd, List.length_append, List.length_cons, List.length_nil]; omega
  rw [hxd]
  simp (maxSteps := 1000000) (disch := omega) only [go_sem, reduceIte, Nat.reduceEqDiff, Nat.reduceAdd, Nat.reduceLeDiff, Nat.reduceLT, Nat.reduceSub, Int.reduceLT, Int.reduceLE, Int.reduceEq, Int.reduceToNat, Option.map_some, List.length_map, List.getElem?_map, Int.toNat_natCast]
  obtain ⟨bx0, hb0⟩ : ∃ b, b = upd bx 303 ⟨(bx 303).ep + 1, 1, 5, 52, [.agg [.str x.text, .str x.cat, .int .i64 x.no, .sl 1 (x.gives.map D.str), .int .i64 x.cost]]⟩ := ⟨_, rfl⟩
  rw [← hb0]
  have hX := (congrFun hb0 303).trans (upd_same _ _ _)
  have hK : ∀ q, q < 300 → bx0 q = bx q := fun q hq => by rw [hb0, upd_ne (by omega)]
  have hv0 : OwnT bx0 v xs := hb0 ▸ hv.up (by omega) _
  generalize (bx 303).ep + 1 = e at hX ⊢
  clear hb0 hv
  refine draw_by (.light 0 (.light 1 (.load 2 3 (.light 4 (.load 5 3 (.both 3 [3] (.both 6 [] (.both 7 [] (.light 8 .fin) .stop) .stop) .stop)))))) (by kernel_rfl) ?_
  simp (maxSteps := 1000000) (disch := omega) only [go_sem, reduceIte, Nat.reduceEqDiff, Nat.reduceAdd, Nat.reduceLeDiff, Nat.reduceLT, Nat.reduceSub, Int.reduceLT, Int.reduceLE, Int.reduceEq, Int.reduceToNat, Option.map_some, List.length_map, List.getElem?_map, Int.toNat_natCast, hX]
  refine call_boxes (puts_t wWord x.text bx0 v xs hv0 (by omega)) rfl ?_
  rintro d b1 ⟨h1, h2⟩
  simp (maxSteps := 1000000) (disch := omega) only [go_sem, reduceIte, Nat.reduceEqDiff, Nat.reduceAdd, Nat.reduceLeDiff, Nat.reduceLT, Nat.reduceSub, Int.reduceLT, Int.reduceLE, Int.reduceEq, Int.reduceToNat, Option.map_some, List.length_map, List.getElem?_map, Int.toNat_natCast, h2 303 (by omega)]
  refine call_boxes (puts_t wIs x.cat b1 d _ h1 (by simp; omega)) rfl ?_
  rintro d2 b2 ⟨h3, h4⟩
  simp (maxSteps := 1000000) (disch := omega) only [go_sem, reduceIte, Nat.reduceEqDiff, Nat.reduceAdd, Nat.reduceLeDiff, Nat.reduceLT, Nat.reduceSub, Int.reduceLT, Int.reduceLE, Int.reduceEq, Int.reduceToNat, Option.map_some, List.length_map, List.getElem?_map, Int.toNat_natCast]
  refine call_boxes (put_t wGives b2 d2 _ h3 (by simp; omega)) rfl ?_
  rintro d3 b3 ⟨h5, h6⟩
  have hX3 := ((h6 303 (by omega)).trans ((h4 303 (by omega)).trans (h2 303 (by omega)))).trans hX
  have hK3 : ∀ q, q < 300 → b3 q = bx q := fun q hq => ((h6 q (by omega)).trans ((h4 q (by omega)).trans (h2 q (by omega)))).trans (hK q hq)
  clear h1 h2 h3 h4 h6 hX hK hv0
  simp (maxSteps := 1000000) (disch := omega) only [go_sem, reduceIte, Nat.reduceEqDiff, Nat.reduceAdd, Nat.reduceLeDiff, Nat.reduceLT, Nat.reduceSub, Int.reduceLT, Int.reduceLE, Int.reduceEq, Int.reduceToNat, Option.map_some, List.length_map, List.getElem?_map, Int.toNat_natCast]
  refine cD_for x.gives.length (fun k σ b => ∃ w, σ 0 = w ∧ σ 3 = .loc 303 e 0 0 ∧ σ 5 = .int .i64 k ∧ b 303 = ⟨e, 1, 5, 52, [.agg [.str x.text, .str x.cat, .int .i64 x.no, .sl 1 (x.gives.map D.str), .int .i64 x.cost]]⟩ ∧ OwnT b w (xs ++ [nT wWord, nT x.text] ++ [nT wIs, nT x.cat] ++ [nT wGives] ++ tokGives (x.gives.take k)) ∧ ∀ q, q < 300 → b q = bx q)
    ⟨d3, by simp [go_sem, argsF], by simp [go_sem, argsF], by simp [go_sem], hX3, by simpa [tokGives] using h5, hK3⟩ ?_ ?_
  · clear h5 hX3 hK3
    rintro k σ b hk ⟨w, h0, h3, h5, hX, hw, hK⟩
    obtain ⟨y, hy⟩ := get_lt hk
    have hlt : (k : Int) < (x.gives.length : Int) := by omega
    have hws : IntKind.i64.wrap ((k : Int) + 1) = ((k + 1 : Nat) : Int) := wrap_succ (by omega)
    have hle := gives_le x.gives k
    simp (maxSteps := 1000000) (disch := omega) only [go_sem, reduceIte, Nat.reduceEqDiff, Nat.reduceAdd, Nat.reduceLeDiff, Nat.reduceLT, Nat.reduceSub, Int.reduceLT, Int.reduceLE, Int.reduceEq, Int.reduceToNat, Option.map_some, List.length_map, List.getElem?_map, Int.toNat_natCast, h0, h3, h5, hX, hlt, hy]
    refine condD_dec (fun hj => ?_) (fun hj => ?_)
    · simp (maxSteps := 1000000) (disch := omega) only [go_sem, reduceIte, Nat.reduceEqDiff, Nat.reduceAdd, Nat.reduceLeDiff, Nat.reduceLT, Nat.reduceSub, Int.reduceLT, Int.reduceLE, Int.reduceEq, Int.reduceToNat, Option.map_some, List.length_map, List.getElem?_map, Int.toNat_natCast, h0, h3, h5, hX, hlt, hy]
      refine call_boxes (mark_t [44] b w _ hw (by simp only [List.length_append, List.length_cons, List.length_nil]; omega)) rfl ?_
      rintro d b1 ⟨g1, g2⟩
      have hX1 := (g2 303 (by omega)).trans hX
      simp (maxSteps := 1000000) (disch := omega) only [go_sem, reduceIte, Nat.reduceEqDiff, Nat.reduceAdd, Nat.reduceLeDiff, Nat.reduceLT, Nat.reduceSub, Int.reduceLT, Int.reduceLE, Int.reduceEq, Int.reduceToNat, Option.map_some, List.length_map, List.getElem?_map, Int.toNat_natCast, h0, h3, h5, hX1, hlt, hy]
      refine call_boxes (put_t y b1 d _ g1 (by simp only [List.length_append, List.length_cons, List.length_nil]; omega)) rfl ?_
      rintro d' b2 ⟨g3, g4⟩
      simp (maxSteps := 1000000) (disch := omega) only [go_sem, reduceIte, Nat.reduceEqDiff, Nat.reduceAdd, Nat.reduceLeDiff, Nat.reduceLT, Nat.reduceSub, Int.reduceLT, Int.reduceLE, Int.reduceEq, Int.reduceToNat, Option.map_some, List.length_map, List.getElem?_map, Int.toNat_natCast, h0, h3, h5, hws]
      refine ⟨d', rfl, (g4 303 (by omega)).trans hX1, ?_, fun q hq => (g4 q (by omega)).trans ((g2 q (by omega)).trans (hK q hq))⟩
      rw [gives_take hy, if_neg (by omega)]
      have : tokComma y = [sT [44]] ++ [nT y] := rfl
      rw [this]
      simp only [List.append_assoc] at g3 ⊢
      exact g3
    · simp (maxSteps := 1000000) (disch := omega) only [go_sem, reduceIte, Nat.reduceEqDiff, Nat.reduceAdd, Nat.reduceLeDiff, Nat.reduceLT, Nat.reduceSub, Int.reduceLT, Int.reduceLE, Int.reduceEq, Int.reduceToNat, Option.map_some, List.length_map, List.getElem?_map, Int.toNat_natCast, h0, h3, h5, hX, hlt, hy]
      refine call_boxes (put_t y b w _ hw (by simp only [List.length_append, List.length_cons, List.length_nil]; omega)) rfl ?_
      rintro d' b2 ⟨g3, g4⟩
      simp (maxSteps := 1000000) (disch := omega) only [go_sem, reduceIte, Nat.reduceEqDiff, Nat.reduceAdd, Nat.reduceLeDiff, Nat.reduceLT, Nat.reduceSub, Int.reduceLT, Int.reduceLE, Int.reduceEq, Int.reduceToNat, Option.map_some, List.length_map, List.getElem?_map, Int.toNat_natCast, h0, h3, h5, hws]
      refine ⟨d', rfl, (g4 303 (by omega)).trans hX, ?_, fun q hq => (g4 q (by omega)).trans (hK q hq)⟩
      rw [gives_take hy, if_pos (by omega)]
      simp only [List.append_assoc] at g3 ⊢
      exact g3
  · clear h5 hX3 hK3
    rintro σ b ⟨w, h0, h3, h5, hX, hw, hK⟩
    have hlt : ¬ (x.gives.length : Int) < (x.gives.length : Int) := by omega
    rw [List.take_length] at hw
    simp (maxSteps := 1000000) (disch := omega) only [go_sem, reduceIte, Nat.reduceEqDiff, Nat.reduceAdd, Nat.reduceLeDiff, Nat.reduceLT, Nat.reduceSub, Int.reduceLT, Int.reduceLE, Int.reduceEq, Int.reduceToNat, Option.map_some, List.length_map, List.getElem?_map, Int.toNat_natCast, h0, h3, h5, hX, hlt]
    refine draw_by (.light 0 (.light 2 (.load 3 3 (.both 1 [3] (.both 4 [] (.both 5 [] (.light 6 .fin) .stop) .stop) .stop)))) (by kernel_rfl) ?_
    simp (maxSteps := 1000000) (disch := omega) only [go_sem, reduceIte, Nat.reduceEqDiff, Nat.reduceAdd, Nat.reduceLeDiff, Nat.reduceLT, Nat.reduceSub, Int.reduceLT, Int.reduceLE, Int.reduceEq, Int.reduceToNat, Option.map_some, List.length_map, List.getElem?_map, Int.toNat_natCast, h0, h3, h5, hX]
    refine call_boxes (put_t wCost b w _ hw (by simp only [List.length_append, List.length_cons, List.length_nil]; omega)) rfl ?_
    rintro d b1 ⟨g1, g2⟩
    simp (maxSteps := 1000000) (disch := omega) only [go_sem, reduceIte, Nat.reduceEqDiff, Nat.reduceAdd, Nat.reduceLeDiff, Nat.reduceLT, Nat.reduceSub, Int.reduceLT, Int.reduceLE, Int.reduceEq, Int.reduceToNat, Option.map_some, List.length_map, List.getElem?_map, Int.toNat_natCast, g2 303 (by omega)]
    refine call_boxes (digits_t x.cost b1 d _ g1 (by simp only [List.length_append, List.length_cons, List.length_nil]; omega)) rfl ?_
    rintro d2 b2 ⟨g3, g4⟩
    simp (maxSteps := 1000000) (disch := omega) only [go_sem, reduceIte, Nat.reduceEqDiff, Nat.reduceAdd, Nat.reduceLeDiff, Nat.reduceLT, Nat.reduceSub, Int.reduceLT, Int.reduceLE, Int.reduceEq, Int.reduceToNat, Option.map_some, List.length_map, List.getElem?_map, Int.toNat_natCast]
    refine call_boxes (mark_t [59] b2 d2 _ g3 (by simp only [List.length_append, List.length_cons, List.length_nil]; omega)) rfl ?_
    rintro d3 b3 ⟨g5, g6⟩
    simp (maxSteps := 1000000) (disch := omega) only [go_sem, reduceIte, Nat.reduceEqDiff, Nat.reduceAdd, Nat.reduceLeDiff, Nat.reduceLT, Nat.reduceSub, Int.reduceLT, Int.reduceLE, Int.reduceEq, Int.reduceToNat, Option.map_some, List.length_map, List.getElem?_map, Int.toNat_natCast]
    refine ⟨?_, fun q hq => (g6 q (by omega)).trans ((g4 q (by omega)).trans ((g2 q (by omega)).trans (hK q hq)))⟩
    have : tokEntry x = [nT wWord, nT x.text] ++ ([nT wIs, nT x.cat] ++ ([nT wGives] ++ (tokGives x.gives ++ ([nT wCost] ++ ([dT x.cost] ++ [sT [59]]))))) := rfl
    rw [this]
    simp only [List.append_assoc] at g5 ⊢
    exact g5
theorem putEntry_t (x : Entry) (bx : Bxs) (v : D) (xs : List Tk) (hv : OwnT bx v xs) (hl : xs.length + (tokEntry x).length ≤ 949999) (hg : x.gives.length ≤ 1000000) : AddsAt 72 [x.d] 300 (tokEntry x) bx v xs := (fnB_calls mixed (putEntry_d x bx v xs hv hl hg) rfl (by kernel_rfl) rfl : CallsB _ _ 300 _ _ _ _)
set_option maxHeartbeats 8000000 in
theorem putRule_d (x : Rule) (bx : Bxs) (v : D) (xs : List Tk) (hv : OwnT bx v xs) (hl : xs.length + (tokRule x).length ≤ 949999) (hg : x.parts.length ≤ 1000000 ∧ x.gives.length ≤ 1000000) : fnB Tryz.prog (orac Tryz.prog) [(2000006, []), (2000013, []), (2000015, []), (6, [(8, 6), (8, 2)]), (13, [(8, 6), (8, 2)]), (15, [(5, 3)])] Tryz.f73 400 [v, x.d] bx (fun d b2 => OwnT b2 d (xs ++ tokRule x) ∧ ∀ q, q < 300 → b2 q = bx q) (fun _ _ => False) := by
  refine fnB_intro _ [.tmp 4] 82 rfl rfl rfl (by kernel_rfl) ?_
  obtain ⟨hpl, hgl⟩ := hg
  have hxd : x.d = .agg [.str x.cat, .int .i64 x.no, .sl 3 (x.parts.map Part.d), .sl 2 (x.gives.map Give.d), .int .i64 x.cost] := rfl
  have hel : (tokRule x).length = 3 + ((x.parts.flatMap tokPart).length + (1 + ((x.gives.flatMap tokGive).length + 3))) := by simp only [tokRule, tokEnd, List.length_append, List.length_cons, List.length_nil]; omega
  rw [hxd]
  simp (maxSteps := 1000000) (disch := omega) only [go_sem, reduceIte, Nat.reduceEqDiff, Nat.reduceAdd, Nat.reduceLeDiff, Nat.reduceLT, Nat.reduceSub, Int.reduceLT, Int.reduceLE, Int.reduceEq, Int.reduceToNat, Option.map_some, List.length_map, List.getElem?_map, Int.toNat_natCast]
  obtain ⟨bx0, hb0⟩ : ∃ b, b = upd bx 403 ⟨(bx 403).ep + 1, 1, 5, 68, [.agg [.str x.cat, .int .i64 x.no, .sl 3 (x.parts.map Part.d), .sl 2 (x.gives.map Give.d), .int .i64 x.cost]]⟩ := ⟨_, rfl⟩
  rw [← hb0]
  have hX := (congrFun hb0 403).trans (upd_same _ _ _)
  have hK : ∀ q, q < 300 → bx0 q = bx q := fun q hq => by rw [hb0, upd_ne (by omega)]
  have hv0 : OwnT bx0 v xs := hb0 ▸ hv.up (by omega) _
  generalize (bx 403).ep + 1 = e at hX ⊢
  clear hb0 hv
  refine call_boxes (puts_t wRule x.cat bx0 v xs hv0 (by omega)) rfl ?_
  rintro d b1 ⟨h1, h2⟩
  simp (maxSteps := 1000000) (disch := omega) only [go_sem, reduceIte, Nat.reduceEqDiff, Nat.reduceAdd, Nat.reduceLeDiff, Nat.reduceLT, Nat.reduceSub, Int.reduceLT, Int.reduceLE, Int.reduceEq, Int.reduceToNat, Option.map_some, List.length_map, List.getElem?_map, Int.toNat_natCast]
  refine call_boxes (mark_t [61] b1 d _ h1 (by simp only [List.length_append, List.length_cons, List.length_nil]; omega)) rfl ?_
  rintro d2 b2 ⟨h3, h4⟩
  have hX2 := ((h4 403 (by omega)).trans (h2 403 (by omega))).trans hX
  have hK2 : ∀ q, q < 300 → b2 q = bx q := fun q hq => ((h4 q (by omega)).trans (h2 q (by omega))).trans (hK q hq)
  clear h1 h2 h4 hX hK hv0
  simp (maxSteps := 1000000) (disch := omega) only [go_sem, reduceIte, Nat.reduceEqDiff, Nat.reduceAdd, Nat.reduceLeDiff, Nat.reduceLT, Nat.reduceSub, Int.reduceLT, Int.reduceLE, Int.reduceEq, Int.reduceToNat, Option.map_some, List.length_map, List.getElem?_map, Int.toNat_natCast]
  refine cD_for x.parts.length (fun k σ b => ∃ w, σ 0 = w ∧ σ 3 = .loc 403 e 0 0 ∧ σ 5 = .int .i64 k ∧ b 403 = ⟨e, 1, 5, 68, [.agg [.str x.cat, .int .i64 x.no, .sl 3 (x.parts.map Part.d), .sl 2 (x.gives.map Give.d), .int .i64 x.cost]]⟩ ∧ OwnT b w (xs ++ [nT wRule, nT x.cat] ++ [sT [61]] ++ (x.parts.take k).flatMap tokPart) ∧ ∀ q, q < 300 → b q = bx q)
    ⟨d2, by simp [go_sem, argsF], by simp [go_sem, argsF], by simp [go_sem], hX2, by simpa using h3, hK2⟩ ?_ ?_
  · clear h3 hX2 hK2
    rintro k σ b hk ⟨w, h0, h3, h5, hX, hw, hK⟩
    obtain ⟨y, hy⟩ := get_lt hk
    have hlt : (k : Int) < (x.parts.length : Int) := by omega
    have hws : IntKind.i64.wrap ((k : Int) + 1) = ((k + 1 : Nat) : Int) := wrap_succ (by omega)
    have hle := flat_le tokPart x.parts k
    have hyd : y.d = .agg [.str y.cat, .int .i64 y.no, .str y.text] := rfl
    simp (maxSteps := 1000000) (disch := omega) only [go_sem, reduceIte, Nat.reduceEqDiff, Nat.reduceAdd, Nat.reduceLeDiff, Nat.reduceLT, Nat.reduceSub, Int.reduceLT, Int.reduceLE, Int.reduceEq, Int.reduceToNat, Option.map_some, List.length_map, List.getElem?_map, Int.toNat_natCast, h0, h3, h5, hX, hlt, hy, hyd]
    refine condD_dec (fun hj => ?_) (fun hj => ?_)
    · simp (maxSteps := 1000000) (disch := omega) only [go_sem, reduceIte, Nat.reduceEqDiff, Nat.reduceAdd, Nat.reduceLeDiff, Nat.reduceLT, Nat.reduceSub, Int.reduceLT, Int.reduceLE, Int.reduceEq, Int.reduceToNat, Option.map_some, List.length_map, List.getElem?_map, Int.toNat_natCast, h0, h3, h5, hX, hlt, hy, hyd]
      refine call_boxes (put_t y.cat b w _ hw (by simp only [List.length_append, List.length_cons, List.length_nil]; omega)) rfl ?_
      rintro d' b2 ⟨g3, g4⟩
      simp (maxSteps := 1000000) (disch := omega) only [go_sem, reduceIte, Nat.reduceEqDiff, Nat.reduceAdd, Nat.reduceLeDiff, Nat.reduceLT, Nat.reduceSub, Int.reduceLT, Int.reduceLE, Int.reduceEq, Int.reduceToNat, Option.map_some, List.length_map, List.getElem?_map, Int.toNat_natCast, h0, h3, h5, hws]
      refine ⟨d', rfl, (g4 403 (by omega)).trans hX, ?_, fun q hq => (g4 q (by omega)).trans (hK q hq)⟩
      have : tokPart y = [nT y.cat] := by unfold tokPart; rw [if_pos hj]
      rw [flat_take tokPart hy, this]
      simp only [List.append_assoc] at g3 ⊢
      exact g3
    · simp (maxSteps := 1000000) (disch := omega) only [go_sem, reduceIte, Nat.reduceEqDiff, Nat.reduceAdd, Nat.reduceLeDiff, Nat.reduceLT, Nat.reduceSub, Int.reduceLT, Int.reduceLE, Int.reduceEq, Int.reduceToNat, Option.map_some, List.length_map, List.getElem?_map, Int.toNat_natCast, h0, h3, h5, hX, hlt, hy, hyd]
      refine draw_by (.light 0 (.light 2 (.load 3 3 (.light 4 (.light 5 (.light 6 (.load 7 3 (.both 1 [3] (.both 8 [] (.light 9 .fin) .stop) .stop)))))))) (by kernel_rfl) ?_
      simp (maxSteps := 1000000) (disch := omega) only [go_sem, reduceIte, Nat.reduceEqDiff, Nat.reduceAdd, Nat.reduceLeDiff, Nat.reduceLT, Nat.reduceSub, Int.reduceLT, Int.reduceLE, Int.reduceEq, Int.reduceToNat, Option.map_some, List.length_map, List.getElem?_map, Int.toNat_natCast, h0, h3, h5, hX, hlt, hy, hyd]
      refine call_boxes (mark_t [58] b w _ hw (by simp only [List.length_append, List.length_cons, List.length_nil]; omega)) rfl ?_
      rintro d b1 ⟨g1, g2⟩
      simp (maxSteps := 1000000) (disch := omega) only [go_sem, reduceIte, Nat.reduceEqDiff, Nat.reduceAdd, Nat.reduceLeDiff, Nat.reduceLT, Nat.reduceSub, Int.reduceLT, Int.reduceLE, Int.reduceEq, Int.reduceToNat, Option.map_some, List.length_map, List.getElem?_map, Int.toNat_natCast, g2 403 (by omega)]
      refine call_boxes (put_t y.text b1 d _ g1 (by simp only [List.length_append, List.length_cons, List.length_nil]; omega)) rfl ?_
      rintro d' b2 ⟨g3, g4⟩
      simp (maxSteps := 1000000) (disch := omega) only [go_sem, reduceIte, Nat.reduceEqDiff, Nat.reduceAdd, Nat.reduceLeDiff, Nat.reduceLT, Nat.reduceSub, Int.reduceLT, Int.reduceLE, Int.reduceEq, Int.reduceToNat, Option.map_some, List.length_map, List.getElem?_map, Int.toNat_natCast, h0, h3, h5, hws]
      refine ⟨d', rfl, (g4 403 (by omega)).trans ((g2 403 (by omega)).trans hX), ?_, fun q hq => (g4 q (by omega)).trans ((g2 q (by omega)).trans (hK q hq))⟩
      have : tokPart y = [sT [58]] ++ [nT y.text] := by unfold tokPart; rw [if_neg hj]; rfl
      rw [flat_take tokPart hy, this]
      simp only [List.append_assoc] at g3 ⊢
      exact g3
  · clear h3 hX2 hK2
    rintro σ b ⟨w, h0, h3, h5, hX, hw, hK⟩
    have hlt : ¬ (x.parts.length : Int) < (x.parts.length : Int) := by omega
    rw [List.take_length] at hw
    simp (maxSteps := 1000000) (disch := omega) only [go_sem, reduceIte, Nat.reduceEqDiff, Nat.reduceAdd, Nat.reduceLeDiff, Nat.reduceLT, Nat.reduceSub, Int.reduceLT, Int.reduceLE, Int.reduceEq, Int.reduceToNat, Option.map_some, List.length_map, List.getElem?_map, Int.toNat_natCast, h0, h3, h5, hX, hlt]
    refine call_boxes (put_t wGives b w _ hw (by simp only [List.length_append, List.length_cons, List.length_nil]; omega)) rfl ?_
    rintro d b1 ⟨g1, g2⟩
    have hX1 := (g2 403 (by omega)).trans hX
    have hK1 : ∀ q, q < 300 → b1 q = bx q := fun q hq => (g2 q (by omega)).trans (hK q hq)
    simp (maxSteps := 1000000) (disch := omega) only [go_sem, reduceIte, Nat.reduceEqDiff, Nat.reduceAdd, Nat.reduceLeDiff, Nat.reduceLT, Nat.reduceSub, Int.reduceLT, Int.reduceLE, Int.reduceEq, Int.reduceToNat, Option.map_some, List.length_map, List.getElem?_map, Int.toNat_natCast, h0, h3, h5]
    refine cD_for x.gives.length (fun k σ b => ∃ w, σ 0 = w ∧ σ 3 = .loc 403 e 0 0 ∧ σ 6 = .int .i64 k ∧ b 403 = ⟨e, 1, 5, 68, [.agg [.str x.cat, .int .i64 x.no, .sl 3 (x.parts.map Part.d), .sl 2 (x.gives.map Give.d), .int .i64 x.cost]]⟩ ∧ OwnT b w (xs ++ [nT wRule, nT x.cat] ++ [sT [61]] ++ x.parts.flatMap tokPart ++ [nT wGives] ++ (x.gives.take k).flatMap tokGive) ∧ ∀ q, q < 300 → b q = bx q)
      ⟨d, by simp [go_sem], by simp [go_sem, h3], by simp [go_sem], hX1, by simpa using g1, hK1⟩ ?_ ?_
    · clear hw hX hK g1 g2 h0 h3 h5 hX1 hK1 σ b b1
      rintro k σ b hk ⟨w, h0, h3, h5, hX, hw, hK⟩
      obtain ⟨y, hy⟩ := get_lt hk
      have hlt : (k : Int) < (x.gives.length : Int) := by omega
      have hws : IntKind.i64.wrap ((k : Int) + 1) = ((k + 1 : Nat) : Int) := wrap_succ (by omega)
      have hle := flat_le tokGive x.gives k
      have hyd : y.d = .agg [.int .i64 y.part, .str y.text] := rfl
      simp (maxSteps := 1000000) (disch := omega) only [go_sem, reduceIte, Nat.reduceEqDiff, Nat.reduceAdd, Nat.reduceLeDiff, Nat.reduceLT, Nat.reduceSub, Int.reduceLT, Int.reduceLE, Int.reduceEq, Int.reduceToNat, Option.map_some, List.length_map, List.getElem?_map, Int.toNat_natCast, h0, h3, h5, hX, hlt, hy, hyd]
      refine condD_dec (fun hj => ?_) (fun hj => ?_)
      · simp (maxSteps := 1000000) (disch := omega) only [go_sem, reduceIte, Nat.reduceEqDiff, Nat.reduceAdd, Nat.reduceLeDiff, Nat.reduceLT, Nat.reduceSub, Int.reduceLT, Int.reduceLE, Int.reduceEq, Int.reduceToNat, Option.map_some, List.length_map, List.getElem?_map, Int.toNat_natCast, h0, h3, h5, hX, hlt, hy, hyd]
        refine call_boxes (digits_t y.part b w _ hw (by simp only [List.length_append, List.length_cons, List.length_nil]; omega)) rfl ?_
        rintro d' b2 ⟨g3, g4⟩
        simp (maxSteps := 1000000) (disch := omega) only [go_sem, reduceIte, Nat.reduceEqDiff, Nat.reduceAdd, Nat.reduceLeDiff, Nat.reduceLT, Nat.reduceSub, Int.reduceLT, Int.reduceLE, Int.reduceEq, Int.reduceToNat, Option.map_some, List.length_map, List.getElem?_map, Int.toNat_natCast, h0, h3, h5, hws]
        refine ⟨d', rfl, (g4 403 (by omega)).trans hX, ?_, fun q hq => (g4 q (by omega)).trans (hK q hq)⟩
        have : tokGive y = [dT y.part] := by unfold tokGive; rw [if_pos hj]
        rw [flat_take tokGive hy, this]
        simp only [List.append_assoc] at g3 ⊢
        exact g3
      · simp (maxSteps := 1000000) (disch := omega) only [go_sem, reduceIte, Nat.reduceEqDiff, Nat.reduceAdd, Nat.reduceLeDiff, Nat.reduceLT, Nat.reduceSub, Int.reduceLT, Int.reduceLE, Int.reduceEq, Int.reduceToNat, Option.map_some, List.length_map, List.getElem?_map, Int.toNat_natCast, h0, h3, h5, hX, hlt, hy, hyd]
        refine draw_by (.light 0 (.light 2 (.load 3 3 (.light 4 (.light 5 (.light 6 (.load 7 3 (.both 1 [3] (.both 8 [] (.light 9 .fin) .stop) .stop)))))))) (by kernel_rfl) ?_
        simp (maxSteps := 1000000) (disch := omega) only [go_sem, reduceIte, Nat.reduceEqDiff, Nat.reduceAdd, Nat.reduceLeDiff, Nat.reduceLT, Nat.reduceSub, Int.reduceLT, Int.reduceLE, Int.reduceEq, Int.reduceToNat, Option.map_some, List.length_map, List.getElem?_map, Int.toNat_natCast, h0, h3, h5, hX, hlt, hy, hyd]
        refine call_boxes (mark_t [58] b w _ hw (by simp only [List.length_append, List.length_cons, List.length_nil]; omega)) rfl ?_
        rintro d b1 ⟨g1, g2⟩
        simp (maxSteps := 1000000) (disch := omega) only [go_sem, reduceIte, Nat.reduceEqDiff, Nat.reduceAdd, Nat.reduceLeDiff, Nat.reduceLT, Nat.reduceSub, Int.reduceLT, Int.reduceLE, Int.reduceEq, Int.reduceToNat, Option.map_some, List.length_map, List.getElem?_map, Int.toNat_natCast, g2 403 (by omega)]
        refine call_boxes (put_t y.text b1 d _ g1 (by simp only [List.length_append, List.length_cons, List.length_nil]; omega)) rfl ?_
        rintro d' b2 ⟨g3, g4⟩
        simp (maxSteps := 1000000) (disch := omega) only [go_sem, reduceIte, Nat.reduceEqDiff, Nat.reduceAdd, Nat.reduceLeDiff, Nat.reduceLT, Nat.reduceSub, Int.reduceLT, Int.reduceLE, Int.reduceEq, Int.reduceToNat, Option.map_some, List.length_map, List.getElem?_map, Int.toNat_natCast, h0, h3, h5, hws]
        refine ⟨d', rfl, (g4 403 (by omega)).trans ((g2 403 (by omega)).trans hX), ?_, fun q hq => (g4 q (by omega)).trans ((g2 q (by omega)).trans (hK q hq))⟩
        have : tokGive y = [sT [58]] ++ [nT y.text] := by unfold tokGive; rw [if_neg hj]; rfl
        rw [flat_take tokGive hy, this]
        simp only [List.append_assoc] at g3 ⊢
        exact g3
    · clear hw hX hK g1 g2 h0 h3 h5 hX1 hK1 σ b b1
      rintro σ b ⟨w, h0, h3, h5, hX, hw, hK⟩
      have hlt : ¬ (x.gives.length : Int) < (x.gives.length : Int) := by omega
      rw [List.take_length] at hw
      simp (maxSteps := 1000000) (disch := omega) only [go_sem, reduceIte, Nat.reduceEqDiff, Nat.reduceAdd, Nat.reduceLeDiff, Nat.reduceLT, Nat.reduceSub, Int.reduceLT, Int.reduceLE, Int.reduceEq, Int.reduceToNat, Option.map_some, List.length_map, List.getElem?_map, Int.toNat_natCast, h0, h3, h5, hX, hlt]
      refine draw_by (.light 0 (.light 2 (.load 3 3 (.both 1 [3] (.both 4 [] (.both 5 [] (.light 6 .fin) .stop) .stop) .stop)))) (by kernel_rfl) ?_
      simp (maxSteps := 1000000) (disch := omega) only [go_sem, reduceIte, Nat.reduceEqDiff, Nat.reduceAdd, Nat.reduceLeDiff, Nat.reduceLT, Nat.reduceSub, Int.reduceLT, Int.reduceLE, Int.reduceEq, Int.reduceToNat, Option.map_some, List.length_map, List.getElem?_map, Int.toNat_natCast, h0, h3, h5, hX]
      refine call_boxes (put_t wCost b w _ hw (by simp only [List.length_append, List.length_cons, List.length_nil]; omega)) rfl ?_
      rintro d b1 ⟨g1, g2⟩
      simp (maxSteps := 1000000) (disch := omega) only [go_sem, reduceIte, Nat.reduceEqDiff, Nat.reduceAdd, Nat.reduceLeDiff, Nat.reduceLT, Nat.reduceSub, Int.reduceLT, Int.reduceLE, Int.reduceEq, Int.reduceToNat, Option.map_some, List.length_map, List.getElem?_map, Int.toNat_natCast, g2 403 (by omega)]
      refine call_boxes (digits_t x.cost b1 d _ g1 (by simp only [List.length_append, List.length_cons, List.length_nil]; omega)) rfl ?_
      rintro d2 b2 ⟨g3, g4⟩
      simp (maxSteps := 1000000) (disch := omega) only [go_sem, reduceIte, Nat.reduceEqDiff, Nat.reduceAdd, Nat.reduceLeDiff, Nat.reduceLT, Nat.reduceSub, Int.reduceLT, Int.reduceLE, Int.reduceEq, Int.reduceToNat, Option.map_some, List.length_map, List.getElem?_map, Int.toNat_natCast]
      refine call_boxes (mark_t [59] b2 d2 _ g3 (by simp only [List.length_append, List.length_cons, List.length_nil]; omega)) rfl ?_
      rintro d3 b3 ⟨g5, g6⟩
      simp (maxSteps := 1000000) (disch := omega) only [go_sem, reduceIte, Nat.reduceEqDiff, Nat.reduceAdd, Nat.reduceLeDiff, Nat.reduceLT, Nat.reduceSub, Int.reduceLT, Int.reduceLE, Int.reduceEq, Int.reduceToNat, Option.map_some, List.length_map, List.getElem?_map, Int.toNat_natCast]
      refine ⟨?_, fun q hq => (g6 q (by omega)).trans ((g4 q (by omega)).trans ((g2 q (by omega)).trans (hK q hq)))⟩
      have : tokRule x = [nT wRule, nT x.cat] ++ ([sT [61]] ++ (x.parts.flatMap tokPart ++ ([nT wGives] ++ (x.gives.flatMap tokGive ++ ([nT wCost] ++ ([dT x.cost] ++ [sT [59]])))))) := rfl
      rw [this]
      simp only [List.append_assoc] at g5 ⊢
      exact g5
theorem putRule_t (x : Rule) (bx : Bxs) (v : D) (xs : List Tk) (hv : OwnT bx v xs) (hl : xs.length + (tokRule x).length ≤ 949999) (hg : x.parts.length ≤ 1000000 ∧ x.gives.length ≤ 1000000) : AddsAt 73 [x.d] 300 (tokRule x) bx v xs := (fnB_calls mixed (putRule_d x bx v xs hv hl hg) rfl (by kernel_rfl) rfl : CallsB _ _ 400 _ _ _ _)
end Go.V.Gr
