/-
  Types: what is well typed.
-/
import Derived.Test.YtgcbdhnkigmfpaaGreatDoorTb
namespace Go.V.Ty
open Go.Proofs Go.RowKit Go.V.Lx Go.V.Gr
set_option linter.unusedSimpArgs false
set_option linter.unusedVariables false
set_option maxRecDepth 100000

/-- how many of the Gives without a text bear an index -/
def cnt (gs : List Give) (i : Nat) : Nat := gs.countP fun y => decide (y.text = []) && decide (y.part = (i : Int))
def giveOk (n : Nat) (y : Give) : Bool := if y.text = [] then inB 0 ((n : Int) - 1) y.part else decide (y.part = 0) && freeB y.text
def cOk (gs : List Give) (ps : List Part) (i : Nat) : Bool := ps[i]?.all fun q => decide (cnt gs i ≤ 1) && (decide (cnt gs i = 1) == decide (q.text = []))
def countsOk (x : Rule) : Bool := (List.range x.parts.length).all (cOk x.gives x.parts)
def ruleB (p : Str → Bool) (x : Rule) : Bool := p x.cat && (inB 1 4 x.parts.length && (inB 1 8 x.gives.length && (inB 0 1000 x.cost && (x.parts.all (partB p) && (x.gives.all (giveOk x.parts.length) && countsOk x)))))
def cnts (gs : List Give) (n : Nat) : List D := (List.range n).map fun i => D.int .i64 (cnt gs i : Int)
theorem cnts_len (gs : List Give) (n : Nat) : (cnts gs n).length = n := by simp [cnts]
theorem cnts_at {gs : List Give} {n i : Nat} (h : i < n) : (cnts gs n)[i]? = some (.int .i64 (cnt gs i : Int)) := by simp [cnts, h]
theorem cnts_nil (n : Nat) : List.replicate n (D.int .i64 0) = cnts [] n := by
  apply List.ext_getElem?
  intro i
  by_cases h : i < n
  · rw [cnts_at h]; simp [h, cnt]
  · rw [List.getElem?_eq_none (by simpa using h), List.getElem?_eq_none (by rw [cnts_len]; omega)]
theorem cnt_snoc (gs : List Give) (y : Give) (i : Nat) : cnt (gs ++ [y]) i = cnt gs i + if y.text = [] ∧ y.part = (i : Int) then 1 else 0 := by
  simp only [cnt, List.countP_append, List.countP_singleton, Bool.and_eq_true, decide_eq_true_eq]
theorem cnts_text {gs : List Give} {y : Give} {n : Nat} (h : ¬ y.text = []) : cnts (gs ++ [y]) n = cnts gs n := by
  simp only [cnts, cnt_snoc, h, false_and, if_false, Nat.add_zero]
theorem cnts_set {gs : List Give} {y : Give} {n k : Nat} (h : y.text = []) (hk : y.part = (k : Int)) (hn : k < n) : (cnts gs n).set k (.int .i64 ((cnt gs k + 1 : Nat) : Int)) = cnts (gs ++ [y]) n := by
  apply List.ext_getElem?
  intro i
  by_cases hi : i < n
  · rw [cnts_at hi, cnt_snoc, List.getElem?_set, cnts_len, cnts_at hi]
    by_cases e : k = i
    · subst e; simp [h, hk, hi]
    · have : ¬ y.part = (i : Int) := by omega
      simp [e, this]
  · rw [List.getElem?_eq_none (by simp [cnts_len]; omega), List.getElem?_eq_none (by rw [cnts_len]; omega)]
theorem cnt_le (gs : List Give) (i : Nat) : cnt gs i ≤ gs.length := List.countP_le_length
theorem rule_no {p : Str → Bool} {x : Rule} {y : Give} (hy : y ∈ x.gives) (h : giveOk x.parts.length y = false) : ruleB p x = false := by
  have : x.gives.all (giveOk x.parts.length) = false := by rw [List.all_eq_false]; exact ⟨y, hy, by simp [h]⟩
  simp [ruleB, this]
theorem cOk_at {gs : List Give} {ps : List Part} {i : Nat} {q : Part} (h : ps[i]? = some q) : cOk gs ps i = (decide (cnt gs i ≤ 1) && (decide ((cnt gs i : Int) = 1) == decide (q.text = []))) := by
  have : ((cnt gs i : Int) = 1) ↔ cnt gs i = 1 := by omega
  simp only [cOk, h, Option.all_some, this]
theorem rule_no2 {p : Str → Bool} {x : Rule} {j : Nat} (hj : j < x.parts.length) (h : cOk x.gives x.parts j = false) : ruleB p x = false := by
  have : countsOk x = false := by rw [countsOk, List.all_eq_false]; exact ⟨j, List.mem_range.2 hj, by simp [h]⟩
  simp [ruleB, this]
section
variable {p : Str → Bool} {bx0 : Bxs}
theorem rule_p {e t e' t' : Nat} {cf : FuncId} {cc : List D} {m0 : Nat} (hc : PredB cf cc m0 100000 bx0 D.str small p) (hm : m0 ≤ 206) (h5 : bx0 205 = ⟨e, 1, 1, t, [.fn (.func cf) cc]⟩) (h7 : bx0 207 = ⟨e', 1, 1, t', [.fn (.func 58) [.loc 205 e 0 0]]⟩) :
    PredB 59 [.loc 205 e 0 0, .loc 207 e' 0 0] 208 500 bx0 Rule.d SmR (ruleB p) := by
  intro bx x hb hx
  refine fnB_calls (fn := Tryz.f59) (tab := []) (base := 500) mixed ?_ rfl (by kernel_rfl) rfl
  refine fnB_intro _ [.tmp 4] 112 rfl rfl rfl (by kernel_rfl) ?_
  have g5 := (hb 205 (by omega)).trans h5
  have g7 := (hb 207 (by omega)).trans h7
  simp (maxSteps := 1000000) (disch := omega) only [go_sem, g5, Rule.d]
  refine call_boxes (hc _ x.cat (fun s hs => by rw [upd_ne (by omega)]; exact hb s (by omega)) hx.cat) rfl ?_
  rintro d bx2 ⟨rfl, hk2⟩
  have g2 := hk2 503 (by omega)
  rw [upd_same] at g2
  have g5' := (hk2 205 (by omega)).trans ((upd_ne (by omega)).trans g5)
  have g7' := (hk2 207 (by omega)).trans ((upd_ne (by omega)).trans g7)
  cases h1 : p x.cat
  · simp (maxSteps := 1000000) (disch := omega) only [go_sem, g5, h1, g2, Bool.not_false, Bool.not_true]
    exact ⟨by simp [ruleB, h1], fun s hs => (hk2 s (by omega)).trans (upd_ne (by omega))⟩
  simp (maxSteps := 1000000) (disch := omega) only [go_sem, g5, h1, g2, Bool.not_false, Bool.not_true]
  refine call_pure (between_1 1 4 x.parts.length) (by simp [go_sem]) ?_
  cases h3 : inB 1 4 x.parts.length
  · simp (maxSteps := 1000000) (disch := omega) only [go_sem, g5, h1, h3, g2, Bool.not_false, Bool.not_true]
    exact ⟨by simp [ruleB, h1, h3], fun s hs => (hk2 s (by omega)).trans (upd_ne (by omega))⟩
  simp (maxSteps := 1000000) (disch := omega) only [go_sem, g5, h1, h3, g2, Bool.not_false, Bool.not_true]
  refine call_pure (between_1 1 8 x.gives.length) (by simp [go_sem]) ?_
  cases h4 : inB 1 8 x.gives.length
  · simp (maxSteps := 1000000) (disch := omega) only [go_sem, g5, h1, h3, h4, g2, Bool.not_false, Bool.not_true]
    exact ⟨by simp [ruleB, h1, h3, h4], fun s hs => (hk2 s (by omega)).trans (upd_ne (by omega))⟩
  simp (maxSteps := 1000000) (disch := omega) only [go_sem, g5, h1, h3, h4, g2, Bool.not_false, Bool.not_true]
  refine call_pure (between_1 0 1000 x.cost) (by simp [go_sem]) ?_
  cases h6 : inB 0 1000 x.cost
  · simp (maxSteps := 1000000) (disch := omega) only [go_sem, g5, h1, h3, h4, h6, g2, Bool.not_false, Bool.not_true]
    exact ⟨by simp [ruleB, h1, h3, h4, h6], fun s hs => (hk2 s (by omega)).trans (upd_ne (by omega))⟩
  simp (maxSteps := 1000000) (disch := omega) only [go_sem, g5, h1, h3, h4, h6, g2, g7', Bool.not_false, Bool.not_true]
  refine call_boxes (allP_c 612 (part_p hc hm h5) (by omega) (by omega) x.parts hx.plen hx.parts bx2 (fun s hs => (hk2 s (by omega)).trans ((upd_ne (by omega)).trans (hb s (by omega))))) rfl ?_
  rintro d bx3 ⟨rfl, hk3⟩
  replace g2 := (hk3 503 (by omega)).trans g2
  cases h8 : x.parts.all (partB p)
  · simp (maxSteps := 1000000) (disch := omega) only [go_sem, h8, Bool.not_false, Bool.not_true]
    exact ⟨by simp [ruleB, h1, h3, h4, h6, h8], fun s hs => (hk3 s (by omega)).trans ((hk2 s (by omega)).trans (upd_ne (by omega)))⟩
  have hp4 : 1 ≤ x.parts.length ∧ x.parts.length ≤ 4 := by simp [inB] at h3; omega
  have hg8 : 1 ≤ x.gives.length ∧ x.gives.length ≤ 8 := by simp [inB] at h4; omega
  have hz := cnts_nil x.parts.length
  have k0 : (0 : Int) ≤ (x.parts.length : Int) := by omega
  have k1 : (x.parts.length : Int) ≤ (x.parts.length : Int) := by omega
  have k2 : (x.parts.length : Int) * ((8 : Nat) : Int) ≤ 140737488355328 := by omega
  generalize hE : (bx 503).ep + 1 = E at g2
  have keep : ∀ s, s < 500 → bx3 s = bx s := fun s hs => (hk3 s (by omega)).trans ((hk2 s (by omega)).trans (upd_ne (by omega)))
  obtain ⟨e5, he5⟩ : ∃ e5, (bx3 549).ep + 1 = e5 := ⟨_, rfl⟩
  simp (maxSteps := 1000000) (disch := omega) only [go_sem, h8, g2, Bool.not_false, Bool.not_true, hz, k0, k1, k2, he5]
  refine cD_for x.gives.length (fun j σ bx' => σ 3 = .loc 503 E 0 0 ∧ σ 5 = .osl 549 e5 1 0 x.parts.length ∧ σ 51 = .sl 2 (x.gives.map Give.d) ∧ σ 52 = .int .i64 x.gives.length ∧ σ 53 = .int .i64 j ∧ bx' 503 = ⟨E, 1, 5, 42, [x.d]⟩ ∧ bx' 549 = ⟨e5, 1, 1, 3, cnts (x.gives.take j) x.parts.length⟩ ∧ (x.gives.take j).all (giveOk x.parts.length) = true ∧ ∀ s, s < 500 → bx' s = bx s) ?_ ?_ ?_
  · simp (maxSteps := 1000000) (disch := omega) only [go_sem, g2, he5, cnts_len, List.take_zero, Rule.d]
    exact fun s hs => by rw [if_neg (by omega)]; exact keep s hs
  · rintro j σ bx' hj ⟨q3, q5, q51, q52, q53, b3, b549, hok, hk⟩
    obtain ⟨y, hy⟩ := get_lt hj
    have hlt : (j : Int) < (x.gives.length : Int) := by omega
    have hsy : small y.text := hx.gives y (List.mem_of_getElem? hy)
    have htk : x.gives.take (j + 1) = x.gives.take j ++ [y] := by rw [List.take_add_one, hy]; rfl
    simp (maxSteps := 1000000) (disch := omega) only [go_sem, q3, q5, q51, q52, q53, b3, b549, hlt, hy, Give.d]
    have hw : IntKind.i64.wrap ((x.parts.length : Int) - 1) = (x.parts.length : Int) - 1 := wrap_i64 (by omega) (by omega)
    have hj1 : IntKind.i64.wrap ((j : Int) + 1) = ((j + 1 : Nat) : Int) := wrap_succ (by omega)
    have hall : (x.gives.take (j + 1)).all (giveOk x.parts.length) = giveOk x.parts.length y := by rw [htk, List.all_append, hok]; simp
    refine condD_dec (fun c1 => ?_) (fun c1 => ?_)
    · simp (maxSteps := 1000000) (disch := omega) only [go_sem, q5, hw]
      refine call_pure (between_1 0 ((x.parts.length : Int) - 1) y.part) (by simp [go_sem]) ?_
      cases c2 : inB 0 ((x.parts.length : Int) - 1) y.part
      · simp (maxSteps := 1000000) (disch := omega) only [go_sem, c2, Bool.not_false]
        refine ⟨(rule_no (List.mem_of_getElem? hy) (by rw [giveOk, if_pos c1, c2])).symm ▸ rfl, fun s hs => ?_⟩
        (try simp (disch := omega) only [upd_ne, if_neg])
        exact hk s hs
      · have c3 : 0 ≤ y.part ∧ y.part < x.parts.length := by simp [inB] at c2; omega
        obtain ⟨n, hn⟩ : ∃ n : Nat, y.part = n := ⟨y.part.toNat, by omega⟩
        have hn2 : n < x.parts.length := by omega
        have hn3 : (n : Int) < (x.parts.length : Int) := by omega
        have hle := cnt_le (x.gives.take j) n
        have hle2 : (x.gives.take j).length ≤ x.gives.length := List.length_take_le' ..
        have hw2 : IntKind.i64.wrap ((cnt (x.gives.take j) n : Int) + 1) = ((cnt (x.gives.take j) n + 1 : Nat) : Int) := wrap_succ (by omega)
        simp (maxSteps := 1000000) (disch := omega) only [go_sem, c2, Bool.not_true, q3, q5, q51, q52, q53, hj1, hn, hn3, hw2, cnts_at hn2, b549, b3, cnts_len, cnts_set c1 hn hn2]
        rw [← htk, hall]
        refine ⟨rfl, by rw [giveOk, if_pos c1, hn]; rwa [hn] at c2, fun s hs => ?_⟩
        (try simp (disch := omega) only [if_neg])
        exact hk s hs
    · simp (maxSteps := 1000000) (disch := omega) only [go_sem]
      refine condD_dec (fun c2 => ?_) (fun c2 => ?_)
      · have c2' : (!decide (y.part = 0)) = false := by simp [c2]
        simp (maxSteps := 1000000) (disch := omega) only [go_sem, c2']
        refine call_pure (free_c y.text hsy) (by simp [go_sem]) ?_
        cases c4 : freeB y.text
        · simp (maxSteps := 1000000) (disch := omega) only [go_sem, c2', c4, Bool.not_false]
          refine ⟨(rule_no (List.mem_of_getElem? hy) (by rw [giveOk, if_neg c1, c4, Bool.and_false])).symm ▸ rfl, fun s hs => ?_⟩
          (try simp (disch := omega) only [upd_ne, if_neg])
          exact hk s hs
        · simp (maxSteps := 1000000) (disch := omega) only [go_sem, c2', c4, Bool.not_true, q3, q5, q51, q52, q53, hj1, b549, b3]
          rw [hall, htk, cnts_text c1]
          refine ⟨rfl, by rw [giveOk, if_neg c1, c4, decide_eq_true c2]; rfl, fun s hs => ?_⟩
          (try simp (disch := omega) only [if_neg])
          exact hk s hs
      · have c2' : (!decide (y.part = 0)) = true := by simp [c2]
        simp (maxSteps := 1000000) (disch := omega) only [go_sem, c2']
        refine ⟨(rule_no (List.mem_of_getElem? hy) (by rw [giveOk, if_neg c1, decide_eq_false c2, Bool.false_and])).symm ▸ rfl, fun s hs => ?_⟩
        (try simp (disch := omega) only [upd_ne, if_neg])
        exact hk s hs
  · rintro σ bx' ⟨q3, q5, q51, q52, q53, b3, b549, hok, hk⟩
    have hlt : ¬ (x.gives.length : Int) < (x.gives.length : Int) := by omega
    simp (maxSteps := 1000000) (disch := omega) only [go_sem, q3, q5, q51, q52, q53, hlt, b3, b549, Rule.d]
    rw [List.take_length] at hok b549
    refine cD_for x.parts.length (fun j σ bx' => σ 5 = .osl 549 e5 1 0 x.parts.length ∧ σ 88 = .sl 3 (x.parts.map Part.d) ∧ σ 89 = .int .i64 x.parts.length ∧ σ 90 = .int .i64 j ∧ bx' 549 = ⟨e5, 1, 1, 3, cnts x.gives x.parts.length⟩ ∧ (∀ i, i < j → cOk x.gives x.parts i = true) ∧ ∀ s, s < 500 → bx' s = bx s) ?_ ?_ ?_
    · simp (maxSteps := 1000000) (disch := omega) only [go_sem, q5, b549]
      exact ⟨by omega, hk⟩
    · rintro j σ bx' hj ⟨q5, q88, q89, q90, b549, hc, hk⟩
      obtain ⟨y, hy⟩ := get_lt hj
      have hlt : (j : Int) < (x.parts.length : Int) := by omega
      have hj1 : IntKind.i64.wrap ((j : Int) + 1) = ((j + 1 : Nat) : Int) := wrap_succ (by omega)
      simp (maxSteps := 1000000) (disch := omega) only [go_sem, q5, q88, q89, q90, hlt, hy, Part.d, b549, cnts_at hj]
      have hcc := cOk_at (gs := x.gives) hy
      cases c1 : (decide ((cnt x.gives j : Int) = 1) == decide (y.text = []))
      · rw [c1, Bool.and_false] at hcc
        simp (maxSteps := 1000000) (disch := omega) only [go_sem, c1, Bool.not_false, Bool.not_true]
        refine ⟨(rule_no2 hj hcc).symm ▸ rfl, fun s hs => ?_⟩
        (try simp (disch := omega) only [if_neg])
        exact hk s hs
      · rw [c1, Bool.and_true] at hcc
        simp (maxSteps := 1000000) (disch := omega) only [go_sem, c1, Bool.not_true, b549, cnts_at hj, hlt, q5, q88, q89, q90]
        refine condD_dec (fun c2 => ?_) (fun c2 => ?_)
        · simp (maxSteps := 1000000) (disch := omega) only [go_sem, c2, decide_true]
          refine ⟨(rule_no2 hj (by rw [hcc]; simp; omega)).symm ▸ rfl, fun s hs => ?_⟩
          (try simp (disch := omega) only [if_neg])
          exact hk s hs
        · simp (maxSteps := 1000000) (disch := omega) only [go_sem, c2, decide_false, q5, q88, q89, q90, b549, hj1]
          refine ⟨fun i hi => ?_, fun s hs => ?_⟩
          · by_cases e : i = j
            · subst e; rw [hcc]; simp; omega
            · exact hc i (by omega)
          · (try simp (disch := omega) only [if_neg])
            exact hk s hs
    · rintro σ bx' ⟨q5, q88, q89, q90, b549, hc, hk⟩
      have hlt : ¬ (x.parts.length : Int) < (x.parts.length : Int) := by omega
      simp (maxSteps := 1000000) (disch := omega) only [go_sem, q5, q88, q89, q90, hlt]
      have hco : countsOk x = true := by rw [countsOk, List.all_eq_true]; exact fun i hi => hc i (List.mem_range.1 hi)
      exact ⟨by simp only [ruleB, h1, h3, h4, h6, h8, hok, hco, Bool.and_true], hk⟩
end
end Go.V.Ty
