/-
  Lex: the tokens of a source.
-/
import Derived.Test.YtgcbdhnkigmfpaaGreatDoorLD
namespace Go.V.Lx
open Go.Proofs Go.RowKit
set_option linter.unusedSimpArgs false
set_option linter.unusedVariables false
set_option maxRecDepth 100000

@[go_sem] theorem indexAddrD_arr (len esz size : Nat) (g ag : Bool) (z : List D) (t e i j : Nat) (n : Int) (h : 0 ≤ n) (h' : n < len) (h1 : 1 < len) (h2 : 0 < esz) : indexAddrD ⟨.arr len esz g, size, ag, z⟩ (.loc t e i j) n = some (.loc t e i (j + n.toNat * esz)) := by
  simp [indexAddrD, shiftD, h, h', h1, h2]

variable {e2 e3 e4 : Nat} {x2 x3 x4 : D} {bx : Bxs}
theorem caught_ret (h2 : bx 2 = ⟨e2, 1, 1, 50, [x2]⟩) (h3 : bx 3 = ⟨e3, 1, 1, 3, [x3]⟩) (h4 : bx 4 = ⟨e4, 1, 1, 29, [x4]⟩) :
    fnR Tryz.prog (orac Tryz.prog) [] Tryz.f46 39 [.loc 2 e2 0 0, .loc 3 e3 0 0, .loc 4 e4 0 0] bx .ret fun m' bx' => m' = .ret ∧ bx' = bx := by
  refine fnR_intro (t := 4) _ _ 9 rfl rfl rfl (by kernel_rfl) (by kernel_rfl) (upd (upd (argsF 0 [.loc 2 e2 0 0, .loc 3 e3 0 0, .loc 4 e4 0 0]) 4 (.raw .nilIface)) 3 (.raw .nilIface)) ?_ ?_
  · simp (maxSteps := 1000000) (disch := omega) only [go_sem, put]
  · simp (maxSteps := 1000000) (disch := omega) only [go_sem, h2, h3, h4, nilE]
theorem caught_pan (i : Int) (o2 : x2.one = true ∧ ∀ c, setD x2 0 [c] = some c) (o3 : ∀ c, setD x3 0 [c] = some c) (o4 : ∀ c, setD x4 0 [c] = some c) (h2 : bx 2 = ⟨e2, 1, 1, 50, [x2]⟩) (h3 : bx 3 = ⟨e3, 1, 1, 3, [x3]⟩) (h4 : bx 4 = ⟨e4, 1, 1, 29, [x4]⟩) :
    fnR Tryz.prog (orac Tryz.prog) [] Tryz.f46 39 [.loc 2 e2 0 0, .loc 3 e3 0 0, .loc 4 e4 0 0] bx (.pan (.ifc 89 (.int .i64 i))) fun m' bx' => m' = .ret ∧ bx' 2 = ⟨e2, 1, 1, 50, [.nilsl]⟩ ∧ bx' 3 = ⟨e3, 1, 1, 3, [.int .i64 i]⟩ ∧ bx' 4 = ⟨e4, 1, 1, 29, [.int .i64 30]⟩ := by
  refine fnR_intro (t := 4) _ _ 9 rfl rfl rfl (by kernel_rfl) (by kernel_rfl) (upd (upd (argsF 0 [.loc 2 e2 0 0, .loc 3 e3 0 0, .loc 4 e4 0 0]) 4 (.ifc 89 (.int .i64 i))) 3 (.ifc 89 (.int .i64 i))) ?_ ?_
  · simp (maxSteps := 1000000) (disch := omega) only [go_sem, put]
  · have o2 := o2.2
    simp (maxSteps := 1000000) (disch := omega) only [go_sem, h2, h3, h4, nilE, o2, o3, o4]
theorem fnR_calls {f : FuncId} {fn : Func} {tab : List (Nat × List (Nat × Nat))} {base : Nat} {ds : List D} {m : RM} {Q : RM → Bxs → Prop} (h : fnR Tryz.prog (orac Tryz.prog) tab fn base ds bx m Q) (hf : Tryz.prog.funcs[f]? = some fn) (hname : (fn.name == "runtime.NumGoroutine") = false) (hlen : decide (ds.length ≤ fn.ntmps) = true) : CallsR Tryz.prog f base ds bx m Q :=
  fnR_sound mixed hf hname (of_decide_eq_true hlen) (orac_ok Tryz.prog) h
theorem fnP_calls {f : FuncId} {fn : Func} {tab : List (Nat × List (Nat × Nat))} {base : Nat} {ds : List D} {Q Qp : D → Bxs → Prop} (h : fnP Tryz.prog (orac Tryz.prog) tab fn base ds bx Q Qp) (hf : Tryz.prog.funcs[f]? = some fn) (hname : (fn.name == "runtime.NumGoroutine") = false) (hlen : decide (ds.length ≤ fn.ntmps) = true) : CallsB Tryz.prog f base ds bx Q Qp :=
  fnP_sound mixed hf hname (of_decide_eq_true hlen) (orac_ok Tryz.prog) h

def stepAt (s : List UInt8) (i : Nat) (c : UInt8) : Step :=
  if cls c = 1 then spaceStep s i else if cls c = 2 then nameStep s i else if cls c = 3 then numStep s i else if cls c = 4 then signStep s i else none
def lexGo (s : List UInt8) : Nat → Nat → List Tok → List Tok × Int × Int
  | 0, i, xs => (xs, 0, 0)
  | f + 1, i, xs => match s[i]? with
    | none => (xs, 0, 0)
    | some c => match stepAt s i c with
      | none => ([], i, 30)
      | some (k, l) => lexGo s f k (xs ++ l)
theorem runB_pos {p : List Int} {s : List UInt8} {i : Nat} {c : UInt8} (hx : s[i]? = some c) (hc : p.contains (cls c) = true) : 0 < (runB p s i).length := by
  have hi := (List.getElem?_eq_some_iff.1 hx).1
  have : s.drop i = c :: s.drop (i + 1) := by
    rw [List.drop_eq_getElem_cons hi]
    congr 1
    exact (List.getElem?_eq_some_iff.1 hx).2
  unfold runB
  rw [this, List.takeWhile_cons, if_pos hc]
  simp
theorem cls_cases (c : UInt8) : cls c = 0 ∨ cls c = 1 ∨ cls c = 2 ∨ cls c = 3 ∨ cls c = 4 ∨ cls c = 5 := by
  unfold cls
  split
  · simp
  split
  · simp
  split
  · simp
  split
  · simp
  split <;> simp
theorem tok_step {x : Tok} {i n k : Nat} {l : List Tok} (h : tokStep x i n = some (k, l)) : k = i + n ∧ l.length = 1 := by
  unfold tokStep at h
  split at h
  · injection h with h; injection h with h1 h2; subst h1; subst h2; exact ⟨rfl, rfl⟩
  · cases h
theorem step_on {s : List UInt8} {i k : Nat} {c : UInt8} {l : List Tok} (hx : s[i]? = some c) (h : stepAt s i c = some (k, l)) : i < k ∧ k ≤ s.length ∧ l.length ≤ 1 := by
  have hi := (List.getElem?_eq_some_iff.1 hx).1
  unfold stepAt at h
  split at h
  · rename_i hc
    have h1 := runB_pos (p := [1]) hx (by simp [hc])
    have h2 := run_len [1] s i (by omega)
    simp only [spaceStep, Option.some.injEq, Prod.mk.injEq] at h
    obtain ⟨rfl, rfl⟩ := h
    simp; omega
  split at h
  · rename_i _ hc
    have h1 := runB_pos (p := [2, 3, 5]) hx (by simp [hc])
    have h2 := run_len [2, 3, 5] s i (by omega)
    obtain ⟨rfl, h4⟩ := tok_step h
    omega
  split at h
  · rename_i _ _ hc
    have h1 := runB_pos (p := [3]) hx (by simp [hc])
    have h2 := run_len [3] s i (by omega)
    unfold numStep at h
    split at h
    · split at h
      · obtain ⟨rfl, h4⟩ := tok_step h
        omega
      · cases h
    · cases h
  split at h
  · unfold signStep at h
    split at h
    · rename_i hp
      have h0 := indexByte_le (s.drop i) 10
      rw [List.length_drop] at h0
      have h3 : Lib.indexByte (s.drop i) 10 ≠ 0 := by
        generalize s.drop i = t at hp
        match t with
        | [] => simp [Lib.indexByte]
        | x :: r =>
          have hx : x = 47 := by
            simp only [Lib.hasPrefix, List.isPrefixOf, Bool.and_eq_true, beq_iff_eq] at hp
            exact hp.1.symm
          subst hx
          have := Lib.indexByte_ge r 10
          simp only [Lib.indexByte, show ((47 : UInt8) == 10) = false from rfl, Bool.false_eq_true, if_false]
          split
          · omega
          · rename_i h5
            simp only [beq_iff_eq] at h5
            omega
      simp only [Option.some.injEq, Prod.mk.injEq] at h
      obtain ⟨rfl, rfl⟩ := h
      split <;> simp <;> omega
    · obtain ⟨rfl, h4⟩ := tok_step h
      omega
  · cases h
theorem lexGo_fuel (s : List UInt8) : ∀ (f i : Nat) (xs : List Tok), s.length - i ≤ f → lexGo s f i xs = lexGo s (s.length - i) i xs
  | 0, i, xs, h => by rw [show s.length - i = 0 by omega]
  | f + 1, i, xs, h => by
    cases hx : s[i]? with
    | none =>
      have : s.length - i = 0 := by have := List.getElem?_eq_none_iff.1 hx; omega
      rw [this]
      simp only [lexGo, hx]
    | some c =>
      have hi := (List.getElem?_eq_some_iff.1 hx).1
      obtain ⟨g, hg⟩ : ∃ g, s.length - i = g + 1 := ⟨s.length - i - 1, by omega⟩
      rw [hg]
      simp only [lexGo, hx]
      cases hst : stepAt s i c with
      | none => rfl
      | some r =>
        obtain ⟨k, l⟩ := r
        obtain ⟨h1, h2, _⟩ := step_on hx hst
        simp only
        rw [lexGo_fuel s f k (xs ++ l) (by omega), ← lexGo_fuel s g k (xs ++ l) (by omega)]
termination_by f => f
theorem lexGo_step {s : List UInt8} {i : Nat} {xs : List Tok} {c : UInt8} (hx : s[i]? = some c) : lexGo s (s.length - i) i xs = match stepAt s i c with
    | none => ([], i, 30)
    | some (k, l) => lexGo s (s.length - k) k (xs ++ l) := by
  have hi := (List.getElem?_eq_some_iff.1 hx).1
  obtain ⟨g, hg⟩ : ∃ g, s.length - i = g + 1 := ⟨s.length - i - 1, by omega⟩
  rw [hg]
  simp only [lexGo, hx]
  cases hst : stepAt s i c with
  | none => rfl
  | some r =>
    obtain ⟨k, l⟩ := r
    obtain ⟨h1, h2, _⟩ := step_on hx hst
    exact lexGo_fuel s g k (xs ++ l) (by omega)
def placeN (bx : Bxs) : Nat := match (bx 15).es with
  | [.agg [_, .int _ n, _]] => n.toNat
  | _ => 0
theorem place_of {bx : Bxs} {e : Nat} {s : List UInt8} {i : Nat} {xs : List Tok} (h : Scan bx e s i xs) : placeN bx = i := by
  obtain ⟨l, hb, _⟩ := h
  simp [placeN, hb, scD]
def lexL (s : List UInt8) : List Tok × Int × Int := if 65536 < s.length then ([], 0, 2) else lexGo s s.length 0 []
def lexD (r : List Tok × Int × Int) : D := .tup [toks r.1, .int .i64 r.2.1, .int .i64 r.2.2]
theorem pureL_toks : ∀ (xs : List Tok), D.pureL (xs.map Tok.d) = true
  | [] => rfl
  | x :: xs => by simp only [List.map_cons, D.pureL, Tok.d, D.pure, pureL_toks xs, Bool.and_self]
theorem lexD_of {x : D} {l : List Tok} (a b : Int) (h : Weak x (toks l)) : Weak (.tup [x, .int .i64 a, .int .i64 b]) (lexD (l, a, b)) := by
  refine .tup rfl fun i x x' hx hx' => ?_
  rcases i with _ | _ | _ | i
  · simp at hx hx'; subst hx; subst hx'; exact h
  · simp at hx hx'; subst hx; subst hx'; exact .refl _
  · simp at hx hx'; subst hx; subst hx'; exact .refl _
  · simp at hx
theorem lexD_nil (a b : Int) : Weak (.tup [.nilsl, .int .i64 a, .int .i64 b]) (lexD ([], a, b)) := lexD_of a b (.nil _)
set_option maxHeartbeats 4000000 in
theorem lex_d (s : List UInt8) (hs : s.length ≤ 140737488355328) : fnP Tryz.prog (orac Tryz.prog) [] Tryz.f18 0 [.str s] (fun _ => .none) (fun d bx' => ∃ r, outD bx' d = some r ∧ Weak r (lexD (lexL s))) (fun _ _ => False) := by
  refine fnP_intro _ [.cell 2 50, .cell 3 3, .cell 4 29] 39 rfl rfl rfl (by kernel_rfl) (by kernel_rfl) ?_
  simp (maxSteps := 1000000) (disch := omega) only [go_sem]
  refine condD_dec (fun h1 => ?_) (fun h1 => ?_)
  · simp (maxSteps := 1000000) (disch := omega) only [go_sem]
    have : lexL s = ([], 0, 2) := by unfold lexL; rw [if_pos (by omega)]
    exact ⟨_, rfl, by rw [this]; exact lexD_nil _ _⟩
  · simp (maxSteps := 1000000) (disch := omega) only [go_sem, Nat.reduceMul]
    have hlex : lexL s = lexGo s (s.length - 0) 0 [] := by unfold lexL; rw [if_neg (by omega)]; rfl
    refine cD_loop (fun σ bx => ∃ (i : Nat) (xs : List Tok), i ≤ s.length ∧ xs.length ≤ i ∧ σ 0 = .str s ∧ σ 2 = .loc 2 1 0 0 ∧ σ 3 = .loc 3 1 0 0 ∧ σ 4 = .loc 4 1 0 0 ∧ σ 5 = .loc 5 1 0 0 ∧ σ 6 = .loc 15 1 0 0 ∧
        σ dfS = .any [.tup [.fn (.func 46) [.loc 2 1 0 0, .loc 3 1 0 0, .loc 4 1 0 0]]] ∧ bx 2 = ⟨1, 1, 1, 50, [.nilsl]⟩ ∧ bx 3 = ⟨1, 1, 1, 3, [.int .i64 0]⟩ ∧ bx 4 = ⟨1, 1, 1, 29, [.int .i64 0]⟩ ∧
        bx 5 = ⟨1, 1, 6, 93, [.agg [.fn (.func 47) [], .fn (.func 48) [], .fn (.func 49) [], .fn (.func 50) [], .fn (.func 51) [], .fn (.func 47) []]]⟩ ∧ Scan bx 1 s i xs ∧ lexL s = lexGo s (s.length - i) i xs) (fun _ bx => s.length - placeN bx)
      ⟨0, [], Nat.zero_le _, Nat.zero_le _, ?_⟩ ?_
    · refine ⟨?_, ?_, ?_, ?_, ?_, ?_, ?_, ?_, ?_, ?_, ?_, ⟨.nilsl, ?_, OwnV.nil _ _ _ _⟩, hlex⟩
      all_goals first
        | (simp (disch := omega) only [go_sem, argsF, upd, scD, reduceIte, Nat.reduceEqDiff]; done)
        | trace_state
    rintro σ bx ⟨i, xs, hi, hxl, h0, h2, h3, h4, h5, h6, hd, b2, b3, b4, b5, hsc, hgo⟩
    have hsc0 := hsc
    obtain ⟨l, hb, hv⟩ := hsc
    obtain ⟨v1, v2, v3⟩ := hv.facts
    by_cases hlt : i < s.length
    · obtain ⟨c, hx⟩ := get_lt hlt
      have hlt' : (i : Int) < (s.length : Int) := by omega
      rw [lexGo_step hx] at hgo
      have hcc := class_c c
      rcases cls_cases c with hc | hc | hc | hc | hc | hc
      · rw [hc] at hcc
        have hst : stepAt s i c = none := by unfold stepAt; simp [hc]
        simp (maxSteps := 1000000) (disch := omega) only [go_sem, h0, h2, h3, h4, h5, h6, hb, scD, hx, hlt']
        refine call_pure hcc (by simp [go_sem]) ?_
        simp (maxSteps := 1000000) (disch := omega) only [go_sem, h0, h2, h3, h4, h5, h6, hb, b5, scD, hx, Nat.reduceMul]
        refine call_pan (wrong_c hsc0) rfl (fun d bx' hp => ?_) (fun d bx' hp => ?_)
        · obtain ⟨k, l', hr, _⟩ := hp
          cases hr
        · obtain ⟨_, rfl, hk⟩ := hp
          simp (maxSteps := 1000000) (disch := omega) only [go_sem, h0, h2, h3, h4, h5, h6, hd]
          have q2 : bx' 2 = _ := (hk 2 (by omega) (by omega)).trans b2
          have q3 : bx' 3 = _ := (hk 3 (by omega) (by omega)).trans b3
          have q4 : bx' 4 = _ := (hk 4 (by omega) (by omega)).trans b4
          rw [hst] at hgo
          refine leave_call _ (fnR_calls (caught_pan (i : Int) ⟨rfl, fun c => by simp [go_sem]⟩ (fun c => by simp [go_sem]) (fun c => by simp [go_sem]) q2 q3 q4) rfl (by kernel_rfl) rfl) fun m' bx2 hq => ?_
          obtain ⟨rfl, g2, g3, g4⟩ := hq
          simp (maxSteps := 1000000) (disch := omega) only [go_sem, h2, h3, h4, g2, g3, g4]
          exact ⟨_, rfl, by rw [hgo]; exact lexD_nil _ _⟩
      · rw [hc] at hcc
        have hst : stepAt s i c = spaceStep s i := by unfold stepAt; simp [hc]
        simp (maxSteps := 1000000) (disch := omega) only [go_sem, h0, h2, h3, h4, h5, h6, hb, scD, hx, hlt']
        refine call_pure hcc (by simp [go_sem]) ?_
        simp (maxSteps := 1000000) (disch := omega) only [go_sem, h0, h2, h3, h4, h5, h6, hb, b5, scD, hx, Nat.reduceMul]
        rw [hst] at hgo
        refine call_pan (space_c (by omega) hi hsc0) rfl (fun d bx' hp => ?_) (fun d bx' hp => ?_)
        · obtain ⟨k, l', hr, rfl, hs', hk⟩ := hp
          simp (maxSteps := 1000000) (disch := omega) only [go_sem, h0, h2, h3, h4, h5, h6, hd]
          have hon := step_on hx (hst.trans hr)
          rw [hr] at hgo
          have q2 := (hk 2 (by omega) (by omega)).trans b2
          have q3 := (hk 3 (by omega) (by omega)).trans b3
          have q4 := (hk 4 (by omega) (by omega)).trans b4
          have q5 := (hk 5 (by omega) (by omega)).trans b5
          exact ⟨⟨k, xs ++ l', hon.2.1, by rw [List.length_append]; omega, q2, q3, q4, q5, hs', hgo⟩, by rw [place_of hs', place_of hsc0]; omega⟩
        · obtain ⟨hr, rfl, hk⟩ := hp
          simp (maxSteps := 1000000) (disch := omega) only [go_sem, h0, h2, h3, h4, h5, h6, hd]
          have q2 : bx' 2 = _ := (hk 2 (by omega) (by omega)).trans b2
          have q3 : bx' 3 = _ := (hk 3 (by omega) (by omega)).trans b3
          have q4 : bx' 4 = _ := (hk 4 (by omega) (by omega)).trans b4
          rw [hr] at hgo
          refine leave_call _ (fnR_calls (caught_pan (i : Int) ⟨rfl, fun c => by simp [go_sem]⟩ (fun c => by simp [go_sem]) (fun c => by simp [go_sem]) q2 q3 q4) rfl (by kernel_rfl) rfl) fun m' bx2 hq => ?_
          obtain ⟨rfl, g2, g3, g4⟩ := hq
          simp (maxSteps := 1000000) (disch := omega) only [go_sem, h2, h3, h4, g2, g3, g4]
          exact ⟨_, rfl, by rw [hgo]; exact lexD_nil _ _⟩
      · rw [hc] at hcc
        have hst : stepAt s i c = nameStep s i := by unfold stepAt; simp [hc]
        simp (maxSteps := 1000000) (disch := omega) only [go_sem, h0, h2, h3, h4, h5, h6, hb, scD, hx, hlt']
        refine call_pure hcc (by simp [go_sem]) ?_
        simp (maxSteps := 1000000) (disch := omega) only [go_sem, h0, h2, h3, h4, h5, h6, hb, b5, scD, hx, Nat.reduceMul]
        rw [hst] at hgo
        refine call_pan (name_sc (by omega) (by omega) hi hsc0) rfl (fun d bx' hp => ?_) (fun d bx' hp => ?_)
        · obtain ⟨k, l', hr, rfl, hs', hk⟩ := hp
          simp (maxSteps := 1000000) (disch := omega) only [go_sem, h0, h2, h3, h4, h5, h6, hd]
          have hon := step_on hx (hst.trans hr)
          rw [hr] at hgo
          have q2 := (hk 2 (by omega) (by omega)).trans b2
          have q3 := (hk 3 (by omega) (by omega)).trans b3
          have q4 := (hk 4 (by omega) (by omega)).trans b4
          have q5 := (hk 5 (by omega) (by omega)).trans b5
          exact ⟨⟨k, xs ++ l', hon.2.1, by rw [List.length_append]; omega, q2, q3, q4, q5, hs', hgo⟩, by rw [place_of hs', place_of hsc0]; omega⟩
        · obtain ⟨hr, rfl, hk⟩ := hp
          simp (maxSteps := 1000000) (disch := omega) only [go_sem, h0, h2, h3, h4, h5, h6, hd]
          have q2 : bx' 2 = _ := (hk 2 (by omega) (by omega)).trans b2
          have q3 : bx' 3 = _ := (hk 3 (by omega) (by omega)).trans b3
          have q4 : bx' 4 = _ := (hk 4 (by omega) (by omega)).trans b4
          rw [hr] at hgo
          refine leave_call _ (fnR_calls (caught_pan (i : Int) ⟨rfl, fun c => by simp [go_sem]⟩ (fun c => by simp [go_sem]) (fun c => by simp [go_sem]) q2 q3 q4) rfl (by kernel_rfl) rfl) fun m' bx2 hq => ?_
          obtain ⟨rfl, g2, g3, g4⟩ := hq
          simp (maxSteps := 1000000) (disch := omega) only [go_sem, h2, h3, h4, g2, g3, g4]
          exact ⟨_, rfl, by rw [hgo]; exact lexD_nil _ _⟩
      · rw [hc] at hcc
        have hst : stepAt s i c = numStep s i := by unfold stepAt; simp [hc]
        simp (maxSteps := 1000000) (disch := omega) only [go_sem, h0, h2, h3, h4, h5, h6, hb, scD, hx, hlt']
        refine call_pure hcc (by simp [go_sem]) ?_
        simp (maxSteps := 1000000) (disch := omega) only [go_sem, h0, h2, h3, h4, h5, h6, hb, b5, scD, hx, Nat.reduceMul]
        rw [hst] at hgo
        refine call_pan (num_sc (by omega) (by omega) hi hsc0) rfl (fun d bx' hp => ?_) (fun d bx' hp => ?_)
        · obtain ⟨k, l', hr, rfl, hs', hk⟩ := hp
          simp (maxSteps := 1000000) (disch := omega) only [go_sem, h0, h2, h3, h4, h5, h6, hd]
          have hon := step_on hx (hst.trans hr)
          rw [hr] at hgo
          have q2 := (hk 2 (by omega) (by omega)).trans b2
          have q3 := (hk 3 (by omega) (by omega)).trans b3
          have q4 := (hk 4 (by omega) (by omega)).trans b4
          have q5 := (hk 5 (by omega) (by omega)).trans b5
          exact ⟨⟨k, xs ++ l', hon.2.1, by rw [List.length_append]; omega, q2, q3, q4, q5, hs', hgo⟩, by rw [place_of hs', place_of hsc0]; omega⟩
        · obtain ⟨hr, rfl, hk⟩ := hp
          simp (maxSteps := 1000000) (disch := omega) only [go_sem, h0, h2, h3, h4, h5, h6, hd]
          have q2 : bx' 2 = _ := (hk 2 (by omega) (by omega)).trans b2
          have q3 : bx' 3 = _ := (hk 3 (by omega) (by omega)).trans b3
          have q4 : bx' 4 = _ := (hk 4 (by omega) (by omega)).trans b4
          rw [hr] at hgo
          refine leave_call _ (fnR_calls (caught_pan (i : Int) ⟨rfl, fun c => by simp [go_sem]⟩ (fun c => by simp [go_sem]) (fun c => by simp [go_sem]) q2 q3 q4) rfl (by kernel_rfl) rfl) fun m' bx2 hq => ?_
          obtain ⟨rfl, g2, g3, g4⟩ := hq
          simp (maxSteps := 1000000) (disch := omega) only [go_sem, h2, h3, h4, g2, g3, g4]
          exact ⟨_, rfl, by rw [hgo]; exact lexD_nil _ _⟩
      · rw [hc] at hcc
        have hst : stepAt s i c = signStep s i := by unfold stepAt; simp [hc]
        simp (maxSteps := 1000000) (disch := omega) only [go_sem, h0, h2, h3, h4, h5, h6, hb, scD, hx, hlt']
        refine call_pure hcc (by simp [go_sem]) ?_
        simp (maxSteps := 1000000) (disch := omega) only [go_sem, h0, h2, h3, h4, h5, h6, hb, b5, scD, hx, Nat.reduceMul]
        rw [hst] at hgo
        refine call_pan (sign_sc (by omega) (by omega) hlt hsc0) rfl (fun d bx' hp => ?_) (fun d bx' hp => ?_)
        · obtain ⟨k, l', hr, rfl, hs', hk⟩ := hp
          simp (maxSteps := 1000000) (disch := omega) only [go_sem, h0, h2, h3, h4, h5, h6, hd]
          have hon := step_on hx (hst.trans hr)
          rw [hr] at hgo
          have q2 := (hk 2 (by omega) (by omega)).trans b2
          have q3 := (hk 3 (by omega) (by omega)).trans b3
          have q4 := (hk 4 (by omega) (by omega)).trans b4
          have q5 := (hk 5 (by omega) (by omega)).trans b5
          exact ⟨⟨k, xs ++ l', hon.2.1, by rw [List.length_append]; omega, q2, q3, q4, q5, hs', hgo⟩, by rw [place_of hs', place_of hsc0]; omega⟩
        · obtain ⟨hr, rfl, hk⟩ := hp
          simp (maxSteps := 1000000) (disch := omega) only [go_sem, h0, h2, h3, h4, h5, h6, hd]
          have q2 : bx' 2 = _ := (hk 2 (by omega) (by omega)).trans b2
          have q3 : bx' 3 = _ := (hk 3 (by omega) (by omega)).trans b3
          have q4 : bx' 4 = _ := (hk 4 (by omega) (by omega)).trans b4
          rw [hr] at hgo
          refine leave_call _ (fnR_calls (caught_pan (i : Int) ⟨rfl, fun c => by simp [go_sem]⟩ (fun c => by simp [go_sem]) (fun c => by simp [go_sem]) q2 q3 q4) rfl (by kernel_rfl) rfl) fun m' bx2 hq => ?_
          obtain ⟨rfl, g2, g3, g4⟩ := hq
          simp (maxSteps := 1000000) (disch := omega) only [go_sem, h2, h3, h4, g2, g3, g4]
          exact ⟨_, rfl, by rw [hgo]; exact lexD_nil _ _⟩
      · rw [hc] at hcc
        have hst : stepAt s i c = none := by unfold stepAt; simp [hc]
        simp (maxSteps := 1000000) (disch := omega) only [go_sem, h0, h2, h3, h4, h5, h6, hb, scD, hx, hlt']
        refine call_pure hcc (by simp [go_sem]) ?_
        simp (maxSteps := 1000000) (disch := omega) only [go_sem, h0, h2, h3, h4, h5, h6, hb, b5, scD, hx, Nat.reduceMul]
        refine call_pan (wrong_c hsc0) rfl (fun d bx' hp => ?_) (fun d bx' hp => ?_)
        · obtain ⟨k, l', hr, _⟩ := hp
          cases hr
        · obtain ⟨_, rfl, hk⟩ := hp
          simp (maxSteps := 1000000) (disch := omega) only [go_sem, h0, h2, h3, h4, h5, h6, hd]
          have q2 : bx' 2 = _ := (hk 2 (by omega) (by omega)).trans b2
          have q3 : bx' 3 = _ := (hk 3 (by omega) (by omega)).trans b3
          have q4 : bx' 4 = _ := (hk 4 (by omega) (by omega)).trans b4
          rw [hst] at hgo
          refine leave_call _ (fnR_calls (caught_pan (i : Int) ⟨rfl, fun c => by simp [go_sem]⟩ (fun c => by simp [go_sem]) (fun c => by simp [go_sem]) q2 q3 q4) rfl (by kernel_rfl) rfl) fun m' bx2 hq => ?_
          obtain ⟨rfl, g2, g3, g4⟩ := hq
          simp (maxSteps := 1000000) (disch := omega) only [go_sem, h2, h3, h4, g2, g3, g4]
          exact ⟨_, rfl, by rw [hgo]; exact lexD_nil _ _⟩
    · have hlt' : ¬ (i : Int) < (s.length : Int) := by omega
      have hend : lexL s = (xs, 0, 0) := by
        rw [hgo, show s.length - i = 0 by omega]; rfl
      have e3 : (bx 2).ep = 1 := by rw [b2]
      simp (maxSteps := 1000000) (disch := omega) only [go_sem, h0, h2, h3, h4, h5, h6, hb, scD, hlt', b2, b3, b4, v1, v2, v3, hd]
      refine leave_call _ (fnR_calls (caught_ret (e2 := 1) (e3 := 1) (e4 := 1) (x2 := l) (x3 := .int .i64 0) (x4 := .int .i64 0) (by simp [upd]) (by simp [upd]) (by simp [upd])) rfl (by kernel_rfl) rfl) fun m' bx2 hq => ?_
      obtain ⟨rfl, rfl⟩ := hq
      simp (maxSteps := 1000000) (disch := omega) only [go_sem, h2, h3, h4, v1, v2]
      have hv2 : OwnV (upd (upd (upd bx 2 ⟨1, 1, 1, 50, [l]⟩) 3 ⟨1, 1, 1, 3, [.int .i64 0]⟩) 4 ⟨1, 1, 1, 29, [.int .i64 0]⟩) slots 77 4 l (xs.map Tok.d) := hv.of fun q hq => by
        have : q ≠ 2 ∧ q ≠ 3 ∧ q ≠ 4 := by simp [slots] at hq; omega
        simp [upd, this]
      obtain ⟨r, hr, hw⟩ := hv2.out (pureL_toks xs)
      rw [hr, hend]
      exact ⟨_, rfl, lexD_of 0 0 hw⟩
theorem lex_c (s : List UInt8) (hs : s.length ≤ 140737488355328) : CallsTo Tryz.prog 18 [.str s] (lexD (lexL s)) :=
  (fnP_calls (lex_d s hs) rfl (by kernel_rfl) rfl).to (fun _ _ h => h) fun d' bx' h => h
end Go.V.Lx
